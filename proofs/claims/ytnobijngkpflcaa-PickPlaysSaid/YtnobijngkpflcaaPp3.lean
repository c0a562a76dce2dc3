/-
  The law PickPlays of package legatelaw11 returns true for every input, and leaves its arguments as they were. No condition beyond the row's own.
-/
import Derived.Test.YtnobijngkpflcaaPp2
import Derived.KernelRfl
namespace Go.Proofs.Ytnobijngkpflcaa
open Go.Eng
set_option maxRecDepth 100000 in
theorem Err_ok (k : Nat) (n : Int) (t : ByteArray) (cn ci mv : Value) (e : Int) (w : World) (bo : Nat) (own_bo : Own w bo [.int .u8 k, .int .i64 n, .string t, cn, ci, mv, .int .i64 e] 74) : Calls Try.prog 24 #[.pointer (some ⟨bo, 0, none⟩)] w (Ret w fun u _ => u = .int .i64 (errK k e)) := by
 refine enter Try.func24 rfl Try.ntmps24 (lbr rfl) fun a0 y0 zz0 harg => ?_
 have e0 : sl a0 0 = (.pointer (some ⟨bo, 0, none⟩)) := harg 0 (lbr rfl)
 have kw := Keeps.refl All w
 clear harg
 refine zq fun K1 hK1 => ?_
 refine rg mixed y0 zz0 ?_
 refine .ac ?_
 refine .dn fun a2 g W2 y2 zz2 hk hg hV hR hP => ?_
 obtain ⟨-, -⟩ := hV
 replace e0 := ft hR e0
 replace own_bo := own_bo.ext hk
 replace kw := kw.x hk
 clear hR hk hg hP
 refine zn (hK1 _ _ ?_)
 refine zq fun K3 hK3 => ?_
 refine zq fun K4 hK4 => ?_
 refine rg mixed y2 zz2 ?_
 refine .mb rfl e0 ?_
 refine .i (v := (.bool (false))) (sp_nilEq Try.underlying40 (hlc rfl) Has.cst (by simp) rfl) ?_
 refine .dn fun a5 g W5 y5 zz5 hk hg hV hR hP => ?_
 obtain ⟨e4, -, -⟩ := hV
 replace e0 := ft hR e0
 replace e4 := e4.q
 replace own_bo := own_bo.ext hk
 replace kw := kw.x hk
 clear hR hk hg hP
 refine zn (hK4 _ _ ?_)
 refine wp_cond_false e4 ?_
 refine wp_skip (hK3 _ _ ?_)
 refine zq fun K6 hK6 => ?_
 refine zq fun K7 hK7 => ?_
 refine rg mixed y5 zz5 ?_
 refine .mb rfl e0 ?_
 refine .i (sp_nilP (hlc rfl)) ?_
 refine .i (fo 6 (hlc rfl) Try.underlying74 rfl sz28 rfl) ?_
 refine .i (lo1 (hlc rfl) own_bo trivial agg28 sz28 rfl) ?_
 refine .i (sp_eql (hlc rfl) Has.cst) ?_
 refine .i (sp_move (hlc rfl)) ?_
 refine .em rfl (hlc rfl) rfl e0 ?_
 refine .e rfl (hlc rfl) (fun hg => sp_nilP ((hlc rfl).undE hg)) ?_
 refine .e rfl (hlc rfl) (fun hg => fo 0 ((hlc rfl).undE hg) Try.underlying74 rfl sz33 rfl) ?_
 refine .e rfl (hlc rfl) (fun hg => fo 0 ((hlc rfl).undE hg) Try.underlying33 rfl sz5 rfl) ?_
 refine .e rfl (hlc rfl) (fun hg => lo1 ((hlc rfl).undE hg) own_bo trivial agg5 sz5 rfl) ?_
 refine .e rfl (hlc rfl) (fun hg => sp_neq ((hlc rfl).undE hg) Has.cst) ?_
 refine .i (sp_and (hlc rfl) ((hlc rfl).weak fun hq => hq)) ?_
 refine .dn fun a8 g W8 y8 zz8 hk hg hV hR hP => ?_
 obtain ⟨e17, -, -, -, -, -, -, -, -, -, -, -, -, -⟩ := hV
 replace e0 := ft hR e0
 replace e17 := e17.q
 replace own_bo := own_bo.ext hk
 replace kw := kw.x hk
 clear hR hk hg hP
 refine zn (hK7 _ _ ?_)
 refine zc e17 (fun hc => ?_) (fun hc => ?_)
 ·
  have hf : errK k e = 10 := by rw [errK, if_pos]; simp at hc; omega
  refine zq fun K9 hK9 => ?_
  refine rg mixed y8 zz8 ?_
  refine .ac ?_
  refine .dn fun a10 g W10 y10 zz10 hk hg hV hR hP => ?_
  obtain ⟨e2, -⟩ := hV
  replace e2 := e2.q
  replace own_bo := own_bo.ext hk
  replace kw := kw.x hk
  clear hR hk hg hP
  refine zn (hK9 _ _ ?_)
  refine wp_ret ?_
  refine ret1 rfl zz10 e2 ⟨_, rfl, kw, ?_⟩
  rw [hf]
 have hf : errK k e = e := by rw [errK, if_neg]; simp at hc; omega
 refine wp_skip (hK6 _ _ ?_)
 refine zq fun K11 hK11 => ?_
 refine rg mixed y8 zz8 ?_
 refine .mb rfl e0 ?_
 refine .i (sp_nilP (hlc rfl)) ?_
 refine .i (fo 6 (hlc rfl) Try.underlying74 rfl sz28 rfl) ?_
 refine .i (lo1 (hlc rfl) own_bo trivial agg28 sz28 rfl) ?_
 refine .al rfl ?_
 refine .dn fun a12 g W12 y12 zz12 hk hg hV hR hP => ?_
 obtain ⟨e2, -, -, -, -, -⟩ := hV
 replace e2 := e2.q
 replace own_bo := own_bo.ext hk
 replace kw := kw.x hk
 clear hR hk hg hP
 refine zn (hK11 _ _ ?_)
 refine wp_ret ?_
 refine ret1 rfl zz12 e2 ⟨_, rfl, kw, ?_⟩
 rw [hf]
set_option maxRecDepth 100000 in
theorem Fail_ok (k : Nat) (n : Int) (t : ByteArray) (cn ci mv : Value) (e : Int) (f : Int) (w : World) (bo : Nat) (own_bo : Own w bo [.int .u8 k, .int .i64 n, .string t, cn, ci, mv, .int .i64 e] 74) : Calls Try.prog 22 #[.pointer (some ⟨bo, 0, none⟩), .int .i64 f] w (RetL w [bo] fun u W => u = .tuple #[] ∧ Own W bo [.int .u8 k, .int .i64 n, .string t, cn, ci, mv, .int .i64 (failK k e f)] 74) := by
 refine enter Try.func22 rfl Try.ntmps22 (lbr rfl) fun a0 y0 zz0 harg => ?_
 have e0 : sl a0 0 = (.pointer (some ⟨bo, 0, none⟩)) := harg 0 (lbr rfl)
 have e1 : sl a0 1 = (.int .i64 (f)) := harg 1 (lbr rfl)
 have kw := Keeps.refl (fun k => k ∉ [bo]) w
 clear harg
 refine zq fun K1 hK1 => ?_
 refine rg mixed y0 zz0 ?_
 refine .mb rfl e0 ?_
 refine .i (v := (.int .i64 (errK (k : Nat) e))) (sp_call1 (φ1 := Is (.pointer (some ⟨bo, 0, none⟩))) ent24 (hlc rfl) (fun g u1 W hk hgk h1 => by have h1 : u1 = _ := h1; subst u1; exact Err_ok _ _ _ _ _ _ _ W _ (own_bo.ext hk))) ?_
 refine .i (sp_eql (hlc rfl) Has.cst) ?_
 refine .dn fun a2 g W2 y2 zz2 hk hg hV hR hP => ?_
 obtain ⟨e6, -, -, -⟩ := hV
 replace e0 := ft hR e0
 replace e1 := ft hR e1
 replace e6 := e6.q
 replace own_bo := own_bo.ext hk
 replace kw := kw.x hk
 clear hR hk hg hP
 refine zn (hK1 _ _ ?_)
 refine zc e6 (fun hc => ?_) (fun hc => ?_)
 ·
  have hf : failK k e f = f := by rw [failK, if_pos (by simpa using hc)]
  refine rg mixed y2 zz2 ?_
  refine .mb rfl e0 ?_
  refine .mb rfl e1 ?_
  refine .i (sp_nilP (hlc rfl)) ?_
  refine .i (fo 6 (hlc rfl) Try.underlying74 rfl sz28 rfl) ?_
  refine .dn fun a3 g W3 y3 zz3 hk hg hV hR hP => ?_
  obtain ⟨e10, -, e8, -, -⟩ := hV
  replace e8 := e8.q
  have e10 : sl a3 10 = (.pointer (some ⟨bo, 6, none⟩)) := e10
  replace own_bo := own_bo.ext hk
  replace kw := kw.x hk
  clear hR hk hg hP
  refine tail_store e10 e8 sz28 rfl own_bo (lbr rfl) (all_cons rfl all_nil) (fun W4 hs own_bo => ?_)
  have own_bo : Own W4 bo [(.int .u8 ((k : Nat))), (.int .i64 (n)), (.string (t)), cn, ci, mv, (.int .i64 (f))] 74 := own_bo
  replace kw := keeps_storeN kw hs (by simp)
  clear hs
  refine tail_nil ?_
  refine ret0 rfl zz3 ⟨_, rfl, kw, ?_⟩
  exact ⟨rfl, by rw [hf]; exact own_bo⟩
 have hf : failK k e f = e := by rw [failK, if_neg (by simpa using hc)]
 refine wp_skip ?_
 refine ret0 rfl zz2 ⟨_, rfl, kw, ?_⟩
 exact ⟨rfl, by rw [hf]; exact own_bo⟩
set_option maxRecDepth 100000 in
theorem items_ok (x : V) (most : Int) (w : World) (S : BSet) (v : Value) (hv : Rd w S x.d v) : Calls Try.prog 100 #[v, .int .i64 most] w (Ret w fun r W => ∃ r1, r = .tuple #[r1, .int .i64 (itemsE x most)] ∧ Rd W (Ar w S) (valsD (itemsV x most)) r1) := by
 obtain ⟨cn0a, cn0c, ci0a, ci0c, ev, ht0, D_cn0, D_ci0⟩ := rdV_out (rd_arg hv)
 subst ev
 refine enter Try.func100 rfl Try.ntmps100 (lbr rfl) fun a0 y0 zz0 harg => ?_
 have e0 : sl a0 0 = (.agg #[(.int .u8 (x.k)), (.int .i64 (x.n)), (.string (x.t)), (.slice cn0a (x.ns.length) cn0c), (.slice ci0a (x.xs.length) ci0c)]) := harg 0 (lbr rfl)
 have e1 : sl a0 1 = (.int .i64 (most)) := harg 1 (lbr rfl)
 have kw := Keeps.refl All w
 clear harg
 refine zq fun K1 hK1 => ?_
 refine rg mixed y0 zz0 ?_
 refine .boxOp (v := (.agg #[(.int .u8 (x.k)), (.int .i64 (x.n)), (.string (x.t)), (.slice cn0a (x.ns.length) cn0c), (.slice ci0a (x.xs.length) ci0c)])) (hbs rfl e0) ?_
 refine .ac ?_
 refine .ac ?_
 refine .dn fun a2 g W2 y2 zz2 hk hg hV hR hP => ?_
 obtain ⟨-, -, ⟨b2_2, e2, hb2, own_b2_2⟩, -⟩ := hV
 have lo_b2_2 : w.heap.size ≤ b2_2 := Nat.le_trans kw.size (hg.lo _ _ hb2)
 have own_b2_2 : Own W2 b2_2 [(.int .u8 (x.k)), (.int .i64 (x.n)), (.string (x.t)), (.slice cn0a (x.ns.length) cn0c), (.slice ci0a (x.xs.length) ci0c)] 33 := own_b2_2
 replace e1 := ft hR e1
 replace D_cn0 := sa_more D_cn0 hk [b2_2] (in_cons (hg.lo _ _ hb2) in_nil)
 replace D_ci0 := sa_more D_ci0 hk [b2_2] (in_cons (hg.lo _ _ hb2) in_nil)
 replace kw := kw.x hk
 clear hR hk hg hP hb2
 refine zn (hK1 _ _ ?_)
 refine zq fun K3 hK3 => ?_
 refine zq fun K4 hK4 => ?_
 refine rg mixed y2 zz2 ?_
 refine .i (fo 0 (hbs rfl e2) Try.underlying33 rfl sz5 rfl) ?_
 refine .i (lo1 (hlc rfl) own_b2_2 trivial agg5 sz5 rfl) ?_
 refine .i (sp_neq (hlc rfl) Has.cst) ?_
 refine .dn fun a5 g W5 y5 zz5 hk hg hV hR hP => ?_
 obtain ⟨e8, -, -, -⟩ := hV
 replace e1 := ft hR e1
 replace e2 := ft hR e2
 replace D_cn0 := D_cn0.ext hk
 replace D_ci0 := D_ci0.ext hk
 replace e8 := e8.q
 replace own_b2_2 := own_b2_2.ext hk
 replace kw := kw.x hk
 clear hR hk hg hP
 refine zn (hK4 _ _ ?_)
 refine zc e8 (fun hc => ?_) (fun hc => ?_)
 ·
  have hk : x.k ≠ 4 := by simp at hc; omega
  have hf : itemsE x most = 10 := by rw [itemsE, if_pos hk]
  have hv2 : itemsV x most = [] := by rw [itemsV, hf]; rfl
  refine zq fun K6 hK6 => ?_
  refine rg mixed y5 zz5 ?_
  refine .ac ?_
  refine .ac ?_
  refine .dn fun a7 g W7 y7 zz7 hk hg hV hR hP => ?_
  obtain ⟨e5, e4, -⟩ := hV
  replace D_cn0 := D_cn0.ext hk
  replace D_ci0 := D_ci0.ext hk
  replace e4 := e4.q
  replace e5 := e5.q
  replace own_b2_2 := own_b2_2.ext hk
  replace kw := kw.x hk
  clear hR hk hg hP
  refine zn (hK6 _ _ ?_)
  refine wp_ret ?_
  refine ret2 rfl zz7 e4 e5 ⟨_, rfl, kw, ?_⟩
  refine ⟨_, by rw [hf], ?_⟩
  rw [hv2]
  exact rd_nil _
 have hk : ¬ x.k ≠ 4 := by simp at hc; omega
 refine wp_skip (hK3 _ _ ?_)
 refine zq fun K8 hK8 => ?_
 refine zq fun K9 hK9 => ?_
 refine rg mixed y5 zz5 ?_
 refine .i (fo 4 (hbs rfl e2) Try.underlying33 rfl sz31 rfl) ?_
 refine .i (lo1 (hlc rfl) own_b2_2 trivial agg31 sz31 rfl) ?_
 refine .i (sp_lenVs Try.underlying31 ((hlc rfl).dat D_ci0 sub_all)) ?_
 refine .mb rfl e1 ?_
 refine .i (sp_gtr (hlc rfl) (hlc rfl)) ?_
 refine .dn fun a10 g W10 y10 zz10 hk hg hV hR hP => ?_
 obtain ⟨e13, -, -, -, -, -⟩ := hV
 replace e2 := ft hR e2
 replace D_cn0 := D_cn0.ext hk
 replace D_ci0 := D_ci0.ext hk
 replace e13 := e13.q
 replace own_b2_2 := own_b2_2.ext hk
 replace kw := kw.x hk
 clear hR hk hg hP
 refine zn (hK9 _ _ ?_)
 refine zc e13 (fun hc => ?_) (fun hc => ?_)
 ·
  have hl : most < x.xs.length := of_decide_eq_true hc
  have hf : itemsE x most = 5 := by rw [itemsE, if_neg hk, if_pos hl]
  have hv2 : itemsV x most = [] := by rw [itemsV, hf]; rfl
  refine zq fun K11 hK11 => ?_
  refine rg mixed y10 zz10 ?_
  refine .ac ?_
  refine .ac ?_
  refine .dn fun a12 g W12 y12 zz12 hk hg hV hR hP => ?_
  obtain ⟨e5, e4, -⟩ := hV
  replace D_cn0 := D_cn0.ext hk
  replace D_ci0 := D_ci0.ext hk
  replace e4 := e4.q
  replace e5 := e5.q
  replace own_b2_2 := own_b2_2.ext hk
  replace kw := kw.x hk
  clear hR hk hg hP
  refine zn (hK11 _ _ ?_)
  refine wp_ret ?_
  refine ret2 rfl zz12 e4 e5 ⟨_, rfl, kw, ?_⟩
  refine ⟨_, by rw [hf], ?_⟩
  rw [hv2]
  exact rd_nil _
 have hl : ¬ most < x.xs.length := of_decide_eq_false hc
 have hf : itemsE x most = 0 := by rw [itemsE, if_neg hk, if_neg hl]
 have hv2 : itemsV x most = x.xs := by rw [itemsV, if_pos hf]
 refine wp_skip (hK8 _ _ ?_)
 refine zq fun K13 hK13 => ?_
 refine rg mixed y10 zz10 ?_
 refine .i (fo 4 (hbs rfl e2) Try.underlying33 rfl sz31 rfl) ?_
 refine .i (lo1 (hlc rfl) own_b2_2 trivial agg31 sz31 rfl) ?_
 refine .al rfl ?_
 refine .ac ?_
 refine .dn fun a14 g W14 y14 zz14 hk hg hV hR hP => ?_
 obtain ⟨e5, e4, -, -, -⟩ := hV
 replace D_cn0 := D_cn0.ext hk
 replace D_ci0 := D_ci0.ext hk
 replace e4 := e4.q
 replace e5 := e5.q
 replace own_b2_2 := own_b2_2.ext hk
 replace kw := kw.x hk
 clear hR hk hg hP
 refine zn (hK13 _ _ ?_)
 refine wp_ret ?_
 refine ret2 rfl zz14 e4 e5 ⟨_, rfl, kw, ?_⟩
 refine ⟨_, by rw [hf], ?_⟩
 rw [hv2]
 exact sa_ar D_ci0
set_option maxRecDepth 100000 in
theorem texts1_ok (x : V) (most : Int) (hx : x.wt ≤ 1073741824) (w : World) (S : BSet) (v : Value) (bq : Nat) (hv : Rd w S x.d v) (own_bq : Own w bq [.int .i64 most] 3) : Calls Try.prog 99 #[v, .pointer (some ⟨bq, 0, none⟩)] w (Ret w fun r W => ∃ r1, r = .tuple #[r1, .int .i64 (textsE most x)] ∧ Rd W (Fr w) (strsD (textsL most x)) r1) := by
 have hwx := wt_eq x
 have hwl := wts_len x.xs
 obtain ⟨cn0a, cn0c, ci0a, ci0c, ev, ht0, D_cn0, D_ci0⟩ := rdV_out (rd_arg hv)
 subst ev
 refine enter Try.func99 rfl Try.ntmps99 (lbr rfl) fun a0 y0 zz0 harg => ?_
 have e0 : sl a0 0 = (.agg #[(.int .u8 (x.k)), (.int .i64 (x.n)), (.string (x.t)), (.slice cn0a (x.ns.length) cn0c), (.slice ci0a (x.xs.length) ci0c)]) := harg 0 (lbr rfl)
 have e1 : sl a0 1 = (.pointer (some ⟨bq, 0, none⟩)) := harg 1 (lbr rfl)
 have kw := Keeps.refl All w
 clear harg
 refine zq fun K1 hK1 => ?_
 refine rg mixed y0 zz0 ?_
 refine .boxOp (v := (.agg #[(.int .u8 (x.k)), (.int .i64 (x.n)), (.string (x.t)), (.slice cn0a (x.ns.length) cn0c), (.slice ci0a (x.xs.length) ci0c)])) (hbs rfl e0) ?_
 refine .ac ?_
 refine .ac ?_
 refine .dn fun a2 g W2 y2 zz2 hk hg hV hR hP => ?_
 obtain ⟨-, -, ⟨b2_2, e2, hb2, own_b2_2⟩, -⟩ := hV
 have lo_b2_2 : w.heap.size ≤ b2_2 := Nat.le_trans kw.size (hg.lo _ _ hb2)
 have ne_bq_b2_2 : bq ≠ b2_2 := Nat.ne_of_lt (Nat.lt_of_lt_of_le own_bq.lt (hg.lo _ _ hb2))
 have own_b2_2 : Own W2 b2_2 [(.int .u8 (x.k)), (.int .i64 (x.n)), (.string (x.t)), (.slice cn0a (x.ns.length) cn0c), (.slice ci0a (x.xs.length) ci0c)] 33 := own_b2_2
 replace e1 := ft hR e1
 replace D_cn0 := sa_more D_cn0 hk [b2_2] (in_cons (hg.lo _ _ hb2) in_nil)
 replace D_ci0 := sa_more D_ci0 hk [b2_2] (in_cons (hg.lo _ _ hb2) in_nil)
 replace own_bq := own_bq.ext hk
 replace kw := kw.x hk
 clear hR hk hg hP hb2
 refine zn (hK1 _ _ ?_)
 refine zq fun K3 hK3 => ?_
 refine rg mixed y2 zz2 ?_
 refine .i (v := (.agg #[(.int .u8 (x.k)), (.int .i64 (x.n)), (.string (x.t)), (.slice cn0a (x.ns.length) cn0c), (.slice ci0a (x.xs.length) ci0c)])) (loA (hbs rfl e2) own_b2_2 trivial agg33 sz33 rfl rfl) ?_
 refine .i (lo1 (hbs rfl e1) own_bq trivial agg3 sz3 rfl) ?_
 refine .op (φ := IsT (IsD (SA w S [b2_2]) (valsD (itemsV (x) most))) (Is (.int .i64 (itemsE (x) most)))) (st_t (st_d sub_all) (st_is _)) (sp_call2 (φ1 := IsD (SA w S [b2_2]) (V.d (x))) (φ2 := Is (.int .i64 (most))) ent100 ((hlc rfl).dat (rdV_in (x := x) ht0 D_cn0 D_ci0 : Rd W2 (SA w S [b2_2]) (V.d (x)) _) sub_all) (hlc rfl) (fun g u1 u2 W hk hgk h1 h2 => by have h2 : u2 = _ := h2; subst u2; exact (items_ok (x) (most) W _ _ h1).mono (fun _ _ ⟨v, h1, h2, r1, h3, h4⟩ => ⟨v, h1, h2, r1, _, h3, rd_ar_sa kw (in_cons own_b2_2.lt in_nil) hk hgk h4, rfl⟩))) ?_
 refine .op (φ := IsT (IsD (SA w S [b2_2]) (valsD (itemsV (x) most))) (Is (.int .i64 (itemsE (x) most)))) (st_t (st_d sub_all) (st_is _)) (sp_move (hlc rfl)) ?_
 refine .da (X := SA w S [b2_2]) (e := valsD (itemsV (x) most)) (sp_ext2 (hlc rfl) rfl) ?_
 refine .i (v := (.int .i64 (itemsE (x) most))) (sp_ext2' (hlc rfl) rfl) ?_
 refine .da (X := SA w S [b2_2]) (e := valsD (itemsV (x) most)) (sp_assign (hlc rfl)) ?_
 refine .al rfl ?_
 refine .dn fun a4 g W4 y4 zz4 hk hg hV hR hP => ?_
 obtain ⟨e6, e5, -, -, -, -, -, -, -⟩ := hV
 replace D_cn0 := D_cn0.ext hk
 replace D_ci0 := D_ci0.ext hk
 obtain ⟨v5_4, ev⟩ : ∃ v, sl a4 5 = v := ⟨_, rfl⟩
 rw [ev] at e5
 have D_v5_4 : Rd W4 (SA w S [b2_2]) (valsD (itemsV (x) most)) v5_4 := sa_end e5 hk [] in_nil
 replace e5 := ev; clear ev
 obtain ⟨v5_4a, v5_4c, ev, D2⟩ := rdVs_out D_v5_4
 subst ev; replace D_v5_4 := D2; clear D2
 replace e6 := e6.q
 replace own_bq := own_bq.ext hk
 replace own_b2_2 := own_b2_2.ext hk
 replace kw := kw.x hk
 clear hR hk hg hP
 refine zn (hK3 _ _ ?_)
 refine zq fun K5 hK5 => ?_
 refine zq fun K6 hK6 => ?_
 refine rg mixed y4 zz4 ?_
 refine .mb rfl e6 ?_
 refine .i (sp_neq (hlc rfl) Has.cst) ?_
 refine .dn fun a7 g W7 y7 zz7 hk hg hV hR hP => ?_
 obtain ⟨e17, -, -⟩ := hV
 replace e5 := ft hR e5
 replace e6 := ft hR e6
 replace D_v5_4 := D_v5_4.ext hk
 replace e17 := e17.q
 replace own_bq := own_bq.ext hk
 replace own_b2_2 := own_b2_2.ext hk
 replace kw := kw.x hk
 clear hR hk hg hP
 refine zn (hK6 _ _ ?_)
 refine zc e17 (fun hc => ?_) (fun hc => ?_)
 ·
  have hi : itemsE x most ≠ 0 := by simpa using hc
  have hf : textsE most x = itemsE x most := by rw [textsE, if_pos hi]
  have hv2 : textsL most x = [] := by rw [textsL, hf, if_neg hi]
  refine zq fun K8 hK8 => ?_
  refine rg mixed y7 zz7 ?_
  refine .mb rfl e6 ?_
  refine .ac ?_
  refine .al rfl ?_
  refine .dn fun a9 g W9 y9 zz9 hk hg hV hR hP => ?_
  obtain ⟨e4, e3, -, -⟩ := hV
  replace D_v5_4 := D_v5_4.ext hk
  replace e3 := e3.q
  replace e4 := e4.q
  replace own_bq := own_bq.ext hk
  replace own_b2_2 := own_b2_2.ext hk
  replace kw := kw.x hk
  clear hR hk hg hP
  refine zn (hK8 _ _ ?_)
  refine wp_ret ?_
  refine ret2 rfl zz9 e3 e4 ⟨_, rfl, kw, ?_⟩
  refine ⟨_, by rw [hf], ?_⟩
  rw [hv2]
  exact rd_nil _
 have hi : itemsE x most = 0 := by simpa using hc
 have hiv : itemsV x most = x.xs := by rw [itemsV, if_pos hi]
 refine wp_skip (hK5 _ _ ?_)
 refine zq fun K10 hK10 => ?_
 refine rg mixed y7 zz7 ?_
 refine .ac ?_
 refine .dn fun a11 g W11 y11 zz11 hk hg hV hR hP => ?_
 obtain ⟨e7, -⟩ := hV
 replace e5 := ft hR e5
 replace D_v5_4 := D_v5_4.ext hk
 replace e7 := e7.q
 replace own_bq := own_bq.ext hk
 replace own_b2_2 := own_b2_2.ext hk
 replace kw := kw.x hk
 clear hR hk hg hP
 refine zn (hK10 _ _ ?_)
 refine zq fun K12 hK12 => ?_
 refine zq fun K13 hK13 => ?_
 refine rg mixed y11 zz11 ?_
 refine .mb rfl e5 ?_
 refine .i (sp_lenVs Try.underlying31 ((hlc rfl).dat D_v5_4 sub_all)) ?_
 refine .i (sp_move Has.cst) ?_
 refine .dn fun a14 g W14 y14 zz14 hk hg hV hR hP => ?_
 obtain ⟨e21, e20, e19, -⟩ := hV
 replace e7 := ft hR e7
 replace D_v5_4 := D_v5_4.ext hk
 replace e19 := e19.q
 replace e20 := e20.q
 replace e21 := e21.q
 replace own_bq := own_bq.ext hk
 replace own_b2_2 := own_b2_2.ext hk
 replace kw := kw.x hk
 clear hR hk hg hP
 refine zn (hK13 _ _ ?_)
 refine wp_block ?_
 replace D_v5_4 := sa_less (M' := []) D_v5_4 ls_nil
 have A_ar15 : Arr W14 w.heap.size 9 1 (SF w (blks none ++ [])) (List.map D.str ([])) (.slice none 0 0) none := arr_nil _ _ _ _ _
 replace D_v5_4 : Rd W14 (SA w S (blks none ++ [])) (valsD (itemsV (x) most)) (.slice v5_4a ((itemsV (x) most).length) v5_4c) := D_v5_4
 refine wp_for ((itemsV x most).length) (fun k a W => ∃ (vs7_16 : Value), ∃ (hds7_16 : Option Nat), a.tmps.size = 35 ∧ a.defers = [] ∧ Keeps All w W ∧ sl a 7 = vs7_16 ∧ sl a 19 = (.slice v5_4a ((itemsV (x) most).length) v5_4c) ∧ sl a 20 = (.int .i64 ((itemsV (x) most).length)) ∧ sl a 21 = (.int .i64 ((k : Nat))) ∧ Rd W (SA w S (blks hds7_16 ++ [])) (valsD (itemsV (x) most)) (.slice v5_4a ((itemsV (x) most).length) v5_4c) ∧ Arr W w.heap.size 9 1 (SF w (blks hds7_16 ++ [])) (List.map D.str (List.map V.t ((itemsV x most).take k))) vs7_16 hds7_16 ∧ (∀ i (h : i < (itemsV x most).length), i < k → ((itemsV x most)[i]'h).k = 3)) ⟨(.slice none 0 0), none, y14, zz14, kw, e7, e19, e20, (e21.trans (congrArg (Value.int .i64) (rfl))), D_v5_4, A_ar15, fun i h hi => absurd hi (by omega)⟩ ?_
 clear kw e7 e19 e20 e21 D_v5_4 A_ar15
 rintro k a16 W16 hkk ⟨vs7_16, hds7_16, y16, zz16, kw, e7, e19, e20, e21, D_v5_4, As7_16, hinv⟩
 refine zq fun K17 hK17 => ?_
 refine rg mixed y16 zz16 ?_
 refine .i (sp_lss (hbs rfl e21) (hbs rfl e20)) ?_
 refine .dn fun a18 g W18 y18 zz18 hk hg hV hR hP => ?_
 obtain ⟨e22, -⟩ := hV
 replace e7 := ft hR e7
 replace e19 := ft hR e19
 replace e20 := ft hR e20
 replace e21 := ft hR e21
 replace As7_16 := As7_16.ext hk
 replace D_v5_4 := D_v5_4.ext hk
 replace e22 := e22.q
 replace kw := kw.x hk
 clear hR hk hg hP
 refine zn (hK17 _ _ ?_)
 refine zq fun K19 hK19 => ?_
 refine zc e22 (fun hc => ?_) (fun hc => ?_)
 ·
  have hlt : k < (itemsV x most).length := by simpa using hc
  refine wp_skip (hK19 _ _ ?_)
  refine zq fun K20 hK20 => ?_
  refine wp_block ?_
  refine zq fun K21 hK21 => ?_
  refine rg mixed y18 zz18 ?_
  refine .rf (sp_indexV (i := k) ((hbs rfl e19).dat D_v5_4 sub_all) (hbs rfl e21) Try.underlying31 sz33 rfl hlt) ?_
  refine .da (sp_loadV (hlc rfl) agg33 sz33) ?_
  refine .alloc z33 ?_
  refine .dn fun a22 g W22 y22 zz22 hk hg hV hR hP => ?_
  obtain ⟨⟨b9_22, e9, hb9, own_b9_22⟩, e24, -, -⟩ := hV
  have lo_b9_22 : w.heap.size ≤ b9_22 := Nat.le_trans kw.size (hg.lo _ _ hb9)
  have own_b9_22 : Own W22 b9_22 z5C 33 := own_b9_22
  replace e7 := ft hR e7
  replace e19 := ft hR e19
  replace e20 := ft hR e20
  replace e21 := ft hR e21
  have hMx : ∀ b ∈ (blks hds7_16 ++ []), b < W18.heap.size := (in_app As7_16.lt in_nil)
  have nb_b9_22_ar15 : b9_22 ∉ blks hds7_16 := nb_lt As7_16.lt (hg.lo _ _ hb9)
  replace As7_16 : Arr W22 w.heap.size 9 1 (SF w (b9_22 :: (blks hds7_16 ++ []))) (List.map D.str (List.map V.t ((itemsV x most).take k))) vs7_16 hds7_16 := arrF_more As7_16 hk [b9_22] (in_cons (hg.lo _ _ hb9) in_nil)
  replace D_v5_4 : Rd W22 (SA w S (b9_22 :: (blks hds7_16 ++ []))) (valsD (itemsV (x) most)) (.slice v5_4a ((itemsV (x) most).length) v5_4c) := sa_more D_v5_4 hk [b9_22] (in_cons (hg.lo _ _ hb9) in_nil)
  obtain ⟨v24_22, ev⟩ : ∃ v, sl a22 24 = v := ⟨_, rfl⟩
  rw [ev] at e24
  have D_v24_22 : Rd W22 (SA w S (b9_22 :: (blks hds7_16 ++ []))) (V.d ((itemsV (x) most)[k]'hlt)) v24_22 := sa_end e24 hk [b9_22] (in_cons ⟨_, hb9⟩ in_nil)
  replace e24 := ev; clear ev
  obtain ⟨cn24_22a, cn24_22c, ci24_22a, ci24_22c, ev, ht_v24_22, D_cn24_22, D_ci24_22⟩ := rdV_out D_v24_22
  subst ev; clear D_v24_22
  replace kw := kw.x hk
  clear hR hk hg hP hb9
  refine tail_store e9 e24 sz33 rfl own_b9_22 (lbr rfl) (all_cons rfl (all_cons rfl (all_cons rfl (all_cons rfl (all_cons rfl all_nil))))) (fun W23 hs own_b9_22 => ?_)
  have own_b9_22 : Own W23 b9_22 [(.int .u8 (((itemsV (x) most)[k]'hlt).k)), (.int .i64 (((itemsV (x) most)[k]'hlt).n)), (.string (((itemsV (x) most)[k]'hlt).t)), (.slice cn24_22a ((((itemsV (x) most)[k]'hlt).ns).length) cn24_22c), (.slice ci24_22a ((((itemsV (x) most)[k]'hlt).xs).length) ci24_22c)] 33 := own_b9_22
  replace D_v5_4 := sa_store D_v5_4 hs (by simp)
  replace D_cn24_22 := sa_store D_cn24_22 hs (by simp)
  replace D_ci24_22 := sa_store D_ci24_22 hs (by simp)
  replace As7_16 := arrF_store As7_16 hs (by simp) nb_b9_22_ar15
  replace kw := keeps_store kw hs lo_b9_22
  clear hs
  refine zn (hK21 _ _ ?_)
  refine zq fun K24 hK24 => ?_
  refine zq fun K25 hK25 => ?_
  refine rg mixed y22 zz22 ?_
  refine .i (fo 0 (hbs rfl e9) Try.underlying33 rfl sz5 rfl) ?_
  refine .i (lo1 (hlc rfl) own_b9_22 trivial agg5 sz5 rfl) ?_
  refine .i (sp_neq (hlc rfl) Has.cst) ?_
  refine .dn fun a26 g W26 y26 zz26 hk hg hV hR hP => ?_
  obtain ⟨e27, -, -, -⟩ := hV
  replace e7 := ft hR e7
  replace e19 := ft hR e19
  replace e20 := ft hR e20
  replace e21 := ft hR e21
  replace e9 := ft hR e9
  replace As7_16 := As7_16.ext hk
  replace D_v5_4 := D_v5_4.ext hk
  replace D_cn24_22 := D_cn24_22.ext hk
  replace D_ci24_22 := D_ci24_22.ext hk
  replace e27 := e27.q
  replace own_b9_22 := own_b9_22.ext hk
  replace kw := kw.x hk
  clear hR hk hg hP
  refine zn (hK25 _ _ ?_)
  refine zc e27 (fun hc => ?_) (fun hc => ?_)
  ·
   have h3 : ((itemsV x most)[k]'hlt).k ≠ 3 := by simp at hc; omega
   have hall : allT x.xs = false := allT_false (k := k) (by rw [← hiv]; exact hlt) (by simpa [hiv] using h3)
   have hf : textsE most x = 10 := by rw [textsE, if_neg (by simp [hi]), hall]; rfl
   have hv2 : textsL most x = [] := by rw [textsL, hf]; rfl
   refine zq fun K27 hK27 => ?_
   refine rg mixed y26 zz26 ?_
   refine .ac ?_
   refine .ac ?_
   refine .dn fun a28 g W28 y28 zz28 hk hg hV hR hP => ?_
   obtain ⟨e4, e3, -⟩ := hV
   replace As7_16 := As7_16.ext hk
   replace D_v5_4 := D_v5_4.ext hk
   replace D_cn24_22 := D_cn24_22.ext hk
   replace D_ci24_22 := D_ci24_22.ext hk
   replace e3 := e3.q
   replace e4 := e4.q
   replace own_b9_22 := own_b9_22.ext hk
   replace kw := kw.x hk
   clear hR hk hg hP
   refine zn (hK27 _ _ ?_)
   refine wp_ret ?_
   refine ret2 rfl zz28 e3 e4 ⟨_, rfl, kw, ?_⟩
   refine ⟨_, by rw [hf], ?_⟩
   rw [hv2]
   exact rd_nil _
  have h3 : ((itemsV x most)[k]'hlt).k = 3 := by simp at hc; omega
  have hlx : k < x.xs.length := by rw [← hiv]; exact hlt
  refine wp_skip (hK24 _ _ ?_)
  refine wp_reg (fun k => k ∉ blks hds7_16) (Ψ := fun W => Arr W w.heap.size 9 1 (SF w (b9_22 :: (blks hds7_16 ++ []))) (List.map D.str (List.map V.t ((itemsV x most).take k))) vs7_16 hds7_16) mixed y26 zz26 (fun W W' k h => h.ext k) As7_16 ?_
  refine .mb rfl e7 ?_
  refine .i (fo 2 (hbs rfl e9) Try.underlying33 rfl sz9 rfl) ?_
  refine .i (lo1 (hlc rfl) own_b9_22 nb_b9_22_ar15 agg9 sz9 rfl) ?_
  refine .op (φ := IsD (SF w (b9_22 :: (blks hds7_16 ++ []))) (strsD ([((itemsV (x) most)[k]'hlt).t]))) (st_d (sub_nbF (fun b hb => List.mem_cons_of_mem _ (List.mem_append_left _ hb)))) (sp_bsl (ds := [D.str (((itemsV (x) most)[k]'hlt).t)]) Try.underlying23 sz9 z9 (lbr rfl) (lbr rfl) ⟨rfl, ((hlc rfl).str ht_v24_22), trivial⟩ rfl (by simp [width]) (fr_sf kw (in_cons own_b9_22.lt (in_app As7_16.lt in_nil)))) ?_
  refine .appB (ds := List.map D.str (List.map V.t ((itemsV x most).take k))) (es := [D.str (((itemsV (x) most)[k]'hlt).t)]) (X := SF w (b9_22 :: (blks hds7_16 ++ []))) Try.underlying23 inf9 (lbr rfl) (hlc rfl) (hlc rfl) (sub_nbF (fun b hb => List.mem_cons_of_mem _ (List.mem_append_left _ hb))) (by simp [maxLen]; omega) (by simp; omega) kw.size ?_
  refine .dn fun a29 g W29 y29 zz29 hk hg hV hR hP => ?_
  obtain ⟨e32, -, -, -, -, -⟩ := hV
  replace e7 := ft hR e7
  replace e19 := ft hR e19
  replace e20 := ft hR e20
  replace e21 := ft hR e21
  obtain ⟨v32_29, ev⟩ : ∃ v, sl a29 32 = v := ⟨_, rfl⟩
  rw [ev] at e32
  obtain ⟨hd32_29, A_32_29, hf32_29⟩ := e32
  have e32 := ev; clear ev
  obtain ⟨v32_29a, v32_29n, v32_29c, ev⟩ := arr_sl A_32_29; subst ev
  replace A_32_29 := arrF_new (M' := (b9_22 :: (blks hd32_29 ++ []))) A_32_29 (rep_cons (rep_app (rep_q fun _ h => h) rep_nil))
  replace A_32_29 : Arr W29 w.heap.size 9 1 (SF w (b9_22 :: (blks hd32_29 ++ []))) (List.map D.str ((List.map V.t ((itemsV x most).take k)) ++ [((itemsV (x) most)[k]'hlt).t])) (.slice v32_29a v32_29n v32_29c) hd32_29 := by first | exact A_32_29 | (rw [List.map_append]; exact A_32_29)
  have nb_b9_22_29 : b9_22 ∉ blks hd32_29 := nb_new nb_b9_22_ar15 own_b9_22.lt hf32_29
  replace D_v5_4 := sa_app (M' := (b9_22 :: (blks hd32_29 ++ []))) D_v5_4 hk (fun b hb => List.mem_cons_of_mem _ (List.mem_append_left _ hb)) (rep_cons (rep_app hf32_29 rep_nil))
  replace D_cn24_22 := sa_app (M' := (b9_22 :: (blks hd32_29 ++ []))) D_cn24_22 hk (fun b hb => List.mem_cons_of_mem _ (List.mem_append_left _ hb)) (rep_cons (rep_app hf32_29 rep_nil))
  replace D_ci24_22 := sa_app (M' := (b9_22 :: (blks hd32_29 ++ []))) D_ci24_22 hk (fun b hb => List.mem_cons_of_mem _ (List.mem_append_left _ hb)) (rep_cons (rep_app hf32_29 rep_nil))
  replace own_b9_22 := own_app own_b9_22 hk nb_b9_22_ar15
  replace kw := keeps_app kw hk As7_16.ge
  clear hR hk hg hP hf32_29 As7_16
  refine tail_assign (v := (.slice v32_29a v32_29n v32_29c)) e32 (by rw [y29]; exact Nat.le_of_ble_eq_true rfl) (fun a30 y30 zz30 e7 hr => ?_)
  replace y30 := y30.trans y29; replace zz30 := zz30.trans zz29
  replace e19 := (hr 19 (by decide)).trans e19
  replace e20 := (hr 20 (by decide)).trans e20
  replace e21 := (hr 21 (by decide)).trans e21
  replace e32 := (hr 32 (by decide)).trans e32
  clear hr
  refine zn (hK20 _ _ ?_)
  refine rg mixed y30 zz30 ?_
  refine .i (sp_add (hbs rfl e21) Has.cst (i64_in (by omega))) ?_
  refine .i (sp_move (hlc rfl)) ?_
  refine .dn fun a31 g W31 y31 zz31 hk hg hV hR hP => ?_
  obtain ⟨e21, -, -⟩ := hV
  replace e7 := ft hR e7
  replace e19 := ft hR e19
  replace e20 := ft hR e20
  replace A_32_29 := A_32_29.ext hk
  replace D_v5_4 := D_v5_4.ext hk
  replace e21 := e21.q
  replace own_b9_22 := own_b9_22.ext hk
  replace kw := kw.x hk
  clear hR hk hg hP
  rw [show (List.map V.t ((itemsV x most).take k)) ++ [((itemsV (x) most)[k]'hlt).t] = List.map V.t ((itemsV x most).take (k + 1)) by rw [List.take_succ_eq_append_getElem hlt, List.map_append]; rfl] at A_32_29
  exact tail_nil ⟨hlt, (.slice v32_29a v32_29n v32_29c), hd32_29, y31, zz31, kw, e7, e19, e20, (e21.trans (congrArg (Value.int .i64) (by simp))), (sa_less D_v5_4 (ls_skip (ls_keepA ls_nil))), (arrF_less A_32_29 (ls_skip (ls_keepA ls_nil))), fun i h hi => by rcases Nat.lt_succ_iff_lt_or_eq.1 hi with h1 | h1; exact hinv i h h1; subst h1; exact h3⟩
 have hge0 : ¬ k < (itemsV x most).length := by simpa using hc
 have hge : k = (itemsV x most).length := by omega
 have hall : allT x.xs = true := allT_true fun i h => by have := hinv i (by rw [hiv]; exact h) (by rw [hge, hiv]; exact h); simpa [hiv] using this
 have hf : textsE most x = 0 := by rw [textsE, if_neg (by simp [hi]), if_pos hall]
 have hv2 : textsL most x = x.xs.map V.t := by rw [textsL, if_pos hf]
 rw [show List.map V.t ((itemsV x most).take k) = List.map V.t x.xs by rw [hge, hiv, List.take_length]] at As7_16
 have D_vs7_16 : Rd W18 (SF w []) (strsD (List.map V.t x.xs)) vs7_16 := arrF_rd As7_16 ls_nil nin_nil
 obtain ⟨vs7_16a, vs7_16c, ev, D2⟩ := rdS_out D_vs7_16
 subst ev; replace D_vs7_16 := D2; clear D2
 replace D_v5_4 := sa_less (M' := []) D_v5_4 ls_nil
 refine wp_exit (hK12 _ _ ?_)
 refine zq fun K32 hK32 => ?_
 refine rg mixed y18 zz18 ?_
 refine .mb rfl e7 ?_
 refine .al rfl ?_
 refine .ac ?_
 refine .dn fun a33 g W33 y33 zz33 hk hg hV hR hP => ?_
 obtain ⟨e4, e3, -, -⟩ := hV
 replace D_v5_4 := D_v5_4.ext hk
 replace D_vs7_16 := D_vs7_16.ext hk
 replace e3 := e3.q
 replace e4 := e4.q
 replace kw := kw.x hk
 clear hR hk hg hP
 refine zn (hK32 _ _ ?_)
 refine wp_ret ?_
 refine ret2 rfl zz33 e3 e4 ⟨_, rfl, kw, ?_⟩
 refine ⟨_, by rw [hf], ?_⟩
 rw [hv2]
 exact sf_fr D_vs7_16
end Go.Proofs.Ytnobijngkpflcaa
namespace Go.Proofs.Ytnobijngkpflcaa
open Go.Eng
set_option maxRecDepth 100000 in
theorem num1_ok (x : V) (lo hi : Int) (w : World) (S : BSet) (v : Value) (b1 b2 : Nat) (hv : Rd w S x.d v) (own_b1 : Own w b1 [.int .i64 lo] 2) (own_b2 : Own w b2 [.int .i64 hi] 2) : Calls Try.prog 105 #[v, .pointer (some ⟨b1, 0, none⟩), .pointer (some ⟨b2, 0, none⟩)] w (Ret w fun r _ => r = .tuple #[.int .i64 (numV lo hi x), .int .i64 (numE lo hi x)]) := by
 obtain ⟨cn0a, cn0c, ci0a, ci0c, ev, ht0, D_cn0, D_ci0⟩ := rdV_out (rd_arg hv)
 subst ev
 refine enter Try.func105 rfl Try.ntmps105 (lbr rfl) fun a0 y0 zz0 harg => ?_
 have e0 : sl a0 0 = (.agg #[(.int .u8 (x.k)), (.int .i64 (x.n)), (.string (x.t)), (.slice cn0a (x.ns.length) cn0c), (.slice ci0a (x.xs.length) ci0c)]) := harg 0 (lbr rfl)
 have e1 : sl a0 1 = (.pointer (some ⟨b1, 0, none⟩)) := harg 1 (lbr rfl)
 have e2 : sl a0 2 = (.pointer (some ⟨b2, 0, none⟩)) := harg 2 (lbr rfl)
 have kw := Keeps.refl All w
 clear harg
 refine zq fun K1 hK1 => ?_
 refine rg mixed y0 zz0 ?_
 refine .boxOp (v := (.agg #[(.int .u8 (x.k)), (.int .i64 (x.n)), (.string (x.t)), (.slice cn0a (x.ns.length) cn0c), (.slice ci0a (x.xs.length) ci0c)])) (hbs rfl e0) ?_
 refine .ac ?_
 refine .ac ?_
 refine .dn fun a2 g W2 y2 zz2 hk hg hV hR hP => ?_
 obtain ⟨-, -, ⟨b3_2, e3, hb3, own_b3_2⟩, -⟩ := hV
 have lo_b3_2 : w.heap.size ≤ b3_2 := Nat.le_trans kw.size (hg.lo _ _ hb3)
 have ne_b1_b3_2 : b1 ≠ b3_2 := Nat.ne_of_lt (Nat.lt_of_lt_of_le own_b1.lt (hg.lo _ _ hb3))
 have ne_b2_b3_2 : b2 ≠ b3_2 := Nat.ne_of_lt (Nat.lt_of_lt_of_le own_b2.lt (hg.lo _ _ hb3))
 have own_b3_2 : Own W2 b3_2 [(.int .u8 (x.k)), (.int .i64 (x.n)), (.string (x.t)), (.slice cn0a (x.ns.length) cn0c), (.slice ci0a (x.xs.length) ci0c)] 33 := own_b3_2
 replace e1 := ft hR e1
 replace e2 := ft hR e2
 replace D_cn0 := sa_more D_cn0 hk [b3_2] (in_cons (hg.lo _ _ hb3) in_nil)
 replace D_ci0 := sa_more D_ci0 hk [b3_2] (in_cons (hg.lo _ _ hb3) in_nil)
 replace own_b1 := own_b1.ext hk
 replace own_b2 := own_b2.ext hk
 replace kw := kw.x hk
 clear hR hk hg hP hb3
 refine zn (hK1 _ _ ?_)
 refine zq fun K3 hK3 => ?_
 refine zq fun K4 hK4 => ?_
 refine rg mixed y2 zz2 ?_
 refine .i (fo 0 (hbs rfl e3) Try.underlying33 rfl sz5 rfl) ?_
 refine .i (lo1 (hlc rfl) own_b3_2 trivial agg5 sz5 rfl) ?_
 refine .i (sp_neq (hlc rfl) Has.cst) ?_
 refine .dn fun a5 g W5 y5 zz5 hk hg hV hR hP => ?_
 obtain ⟨e8, -, -, -⟩ := hV
 replace e1 := ft hR e1
 replace e2 := ft hR e2
 replace e3 := ft hR e3
 replace D_cn0 := D_cn0.ext hk
 replace D_ci0 := D_ci0.ext hk
 replace e8 := e8.q
 replace own_b1 := own_b1.ext hk
 replace own_b2 := own_b2.ext hk
 replace own_b3_2 := own_b3_2.ext hk
 replace kw := kw.x hk
 clear hR hk hg hP
 refine zn (hK4 _ _ ?_)
 refine zc e8 (fun hc => ?_) (fun hc => ?_)
 ·
  have hk : x.k ≠ 2 := by simp at hc; omega
  have hf : numE lo hi x = 10 := by rw [numE, if_pos hk]
  have hv2 : numV lo hi x = 0 := by rw [numV, hf]; rfl
  refine zq fun K6 hK6 => ?_
  refine rg mixed y5 zz5 ?_
  refine .ac ?_
  refine .ac ?_
  refine .dn fun a7 g W7 y7 zz7 hk hg hV hR hP => ?_
  obtain ⟨e5, e4, -⟩ := hV
  replace D_cn0 := D_cn0.ext hk
  replace D_ci0 := D_ci0.ext hk
  replace e4 := e4.q
  replace e5 := e5.q
  replace own_b1 := own_b1.ext hk
  replace own_b2 := own_b2.ext hk
  replace own_b3_2 := own_b3_2.ext hk
  replace kw := kw.x hk
  clear hR hk hg hP
  refine zn (hK6 _ _ ?_)
  refine wp_ret ?_
  refine ret2 rfl zz7 e4 e5 ⟨_, rfl, kw, ?_⟩
  rw [hf, hv2]
 have hk : ¬ x.k ≠ 2 := by simp at hc; omega
 refine wp_skip (hK3 _ _ ?_)
 refine zq fun K8 hK8 => ?_
 refine zq fun K9 hK9 => ?_
 refine rg mixed y5 zz5 ?_
 refine .i (fo 1 (hbs rfl e3) Try.underlying33 rfl sz2 rfl) ?_
 refine .i (lo1 (hlc rfl) own_b3_2 trivial agg2 sz2 rfl) ?_
 refine .i (lo1 (hbs rfl e1) own_b1 trivial agg2 sz2 rfl) ?_
 refine .i (sp_lss (hlc rfl) (hlc rfl)) ?_
 refine .i (sp_move (hlc rfl)) ?_
 refine .e rfl (hlc rfl) (fun hg => fo 1 (hbs rfl e3) Try.underlying33 rfl sz2 rfl) ?_
 refine .e rfl (hlc rfl) (fun hg => lo1 ((hlc rfl).undE hg) own_b3_2 trivial agg2 sz2 rfl) ?_
 refine .e rfl (hlc rfl) (fun hg => lo1 (hbs rfl e2) own_b2 trivial agg2 sz2 rfl) ?_
 refine .e rfl (hlc rfl) (fun hg => sp_gtr ((hlc rfl).undE hg) ((hlc rfl).undE hg)) ?_
 refine .i (sp_or (hlc rfl) ((hlc rfl).weak fun hq => hq)) ?_
 refine .dn fun a10 g W10 y10 zz10 hk hg hV hR hP => ?_
 obtain ⟨e18, -, -, -, -, -, -, -, -, -, -⟩ := hV
 replace e3 := ft hR e3
 replace D_cn0 := D_cn0.ext hk
 replace D_ci0 := D_ci0.ext hk
 replace e18 := e18.q
 replace own_b1 := own_b1.ext hk
 replace own_b2 := own_b2.ext hk
 replace own_b3_2 := own_b3_2.ext hk
 replace kw := kw.x hk
 clear hR hk hg hP
 refine zn (hK9 _ _ ?_)
 refine zc e18 (fun hc => ?_) (fun hc => ?_)
 ·
  have hl : x.n < lo ∨ hi < x.n := by simpa using hc
  have hf : numE lo hi x = 1 := by rw [numE, if_neg hk, if_pos hl]
  have hv2 : numV lo hi x = 0 := by rw [numV, hf]; rfl
  refine zq fun K11 hK11 => ?_
  refine rg mixed y10 zz10 ?_
  refine .ac ?_
  refine .ac ?_
  refine .dn fun a12 g W12 y12 zz12 hk hg hV hR hP => ?_
  obtain ⟨e5, e4, -⟩ := hV
  replace D_cn0 := D_cn0.ext hk
  replace D_ci0 := D_ci0.ext hk
  replace e4 := e4.q
  replace e5 := e5.q
  replace own_b1 := own_b1.ext hk
  replace own_b2 := own_b2.ext hk
  replace own_b3_2 := own_b3_2.ext hk
  replace kw := kw.x hk
  clear hR hk hg hP
  refine zn (hK11 _ _ ?_)
  refine wp_ret ?_
  refine ret2 rfl zz12 e4 e5 ⟨_, rfl, kw, ?_⟩
  rw [hf, hv2]
 have hl : ¬ (x.n < lo ∨ hi < x.n) := by simp at hc; omega
 have hf : numE lo hi x = 0 := by rw [numE, if_neg hk, if_neg hl]
 have hv2 : numV lo hi x = x.n := by rw [numV, if_pos hf]
 refine wp_skip (hK8 _ _ ?_)
 refine zq fun K13 hK13 => ?_
 refine rg mixed y10 zz10 ?_
 refine .i (fo 1 (hbs rfl e3) Try.underlying33 rfl sz2 rfl) ?_
 refine .i (lo1 (hlc rfl) own_b3_2 trivial agg2 sz2 rfl) ?_
 refine .al rfl ?_
 refine .ac ?_
 refine .dn fun a14 g W14 y14 zz14 hk hg hV hR hP => ?_
 obtain ⟨e5, e4, -, -, -⟩ := hV
 replace D_cn0 := D_cn0.ext hk
 replace D_ci0 := D_ci0.ext hk
 replace e4 := e4.q
 replace e5 := e5.q
 replace own_b1 := own_b1.ext hk
 replace own_b2 := own_b2.ext hk
 replace own_b3_2 := own_b3_2.ext hk
 replace kw := kw.x hk
 clear hR hk hg hP
 refine zn (hK13 _ _ ?_)
 refine wp_ret ?_
 refine ret2 rfl zz14 e4 e5 ⟨_, rfl, kw, ?_⟩
 rw [hf, hv2]
set_option maxRecDepth 100000 in
theorem takeS_ok (x : V) (A : As) (e : Int) (hA : AB 1000000 A) (hx : x.wt ≤ 1073741824) (hxt : x.t.size ≤ maxLen) (name : ByteArray) (fi : FuncId) (cb : Array Value) (ce : V → Int) (fv : V → List ByteArray) (w : World) (S : BSet) (cn ci : Value) (bo bm : Nat) (hS : ∀ b o, S b o → Cln o) (hM : ∀ b ∈ [bo, bm], ∀ o, ¬ S b o) (hne : bo ≠ bm) (hv : Rd w S (strsD x.ns) cn) (hu : Rd w S (valsD x.xs) ci) (own_bo : Own w bo [.int .u8 x.k, .int .i64 x.n, .string x.t, cn, ci, .map (some bm), .int .i64 (e)] 74) (own_bm : OwnM w bm A) (ef : Enters Try.prog fi) (hf : ∀ W, Keeps (fun k => k ∉ [bo, bm]) w W → ∀ (y : V) (v : Value), y.wt ≤ 1073741824 → Rd W (Fr w) y.d v → Calls Try.prog fi (#[v] ++ cb) W (Ret W fun r W2 => ∃ r1, r = .tuple #[r1, .int .i64 (ce y)] ∧ Rd W2 (Fr W) (strsD (fv y)) r1)) : Calls Try.prog 98 #[.pointer (some ⟨bo, 0, none⟩), .string name, .func (.func fi) #[] cb] w (RetL w [bo, bm] fun u W => Rd W (Fr w) (strsD (if tkB x e name ce then fv (getV x name) else [])) u ∧ Own W bo [.int .u8 x.k, .int .i64 x.n, .string x.t, cn, ci, .map (some bm), .int .i64 (tkE x e name ce)] 74 ∧ OwnM W bm (tkA x A e name ce)) := by
 have hwx := wt_eq x
 have hwl := wts_len x.xs
 have hwn := wtN_len x.ns
 obtain ⟨cna, cnc, ev, D_cn⟩ := rdS_out (rd_argM (M := [bo, bm]) hv hM)
 subst ev
 obtain ⟨cia, cic, ev, D_ci⟩ := rdVs_out (rd_argM (M := [bo, bm]) hu hM)
 subst ev
 refine enter Try.func98 rfl Try.ntmps98 (lbr rfl) fun a0 y0 zz0 harg => ?_
 have e0 : sl a0 0 = (.pointer (some ⟨bo, 0, none⟩)) := harg 0 (lbr rfl)
 have e1 : sl a0 1 = (.string (name)) := harg 1 (lbr rfl)
 have e2 : sl a0 2 = (.func (.func fi) #[] cb) := harg 2 (lbr rfl)
 have kw := Keeps.refl (fun k => k ∉ [bo, bm]) w
 clear harg
 refine zq fun K1 hK1 => ?_
 refine rg mixed y0 zz0 ?_
 refine .ac ?_
 refine .dn fun a2 g W2 y2 zz2 hk hg hV hR hP => ?_
 obtain ⟨-, -⟩ := hV
 replace e0 := ft hR e0
 replace e1 := ft hR e1
 replace e2 := ft hR e2
 replace D_cn := D_cn.ext hk
 replace D_ci := D_ci.ext hk
 replace own_bo := own_bo.ext hk
 replace own_bm := own_bm.ext hk
 replace kw := kw.x hk
 clear hR hk hg hP
 refine zn (hK1 _ _ ?_)
 refine zq fun K3 hK3 => ?_
 refine rg mixed y2 zz2 ?_
 refine .ac ?_
 refine .dn fun a4 g W4 y4 zz4 hk hg hV hR hP => ?_
 obtain ⟨e7, -⟩ := hV
 replace e0 := ft hR e0
 replace e1 := ft hR e1
 replace e2 := ft hR e2
 replace D_cn := D_cn.ext hk
 replace D_ci := D_ci.ext hk
 replace e7 := e7.q
 replace own_bo := own_bo.ext hk
 replace own_bm := own_bm.ext hk
 replace kw := kw.x hk
 clear hR hk hg hP
 refine zn (hK3 _ _ ?_)
 refine zq fun K5 hK5 => ?_
 refine zq fun K6 hK6 => ?_
 refine rg mixed y4 zz4 ?_
 refine .mb rfl e0 ?_
 refine .i (v := (.int .i64 (errK x.k e))) (sp_call1 (φ1 := Is (.pointer (some ⟨bo, 0, none⟩))) ent24 (hlc rfl) (fun g u1 W hk hgk h1 => by have h1 : u1 = _ := h1; subst u1; exact Err_ok _ _ _ _ _ _ _ W _ (own_bo.ext hk))) ?_
 refine .i (sp_neq (hlc rfl) Has.cst) ?_
 refine .dn fun a7 g W7 y7 zz7 hk hg hV hR hP => ?_
 obtain ⟨e14, -, -, -⟩ := hV
 replace e0 := ft hR e0
 replace e1 := ft hR e1
 replace e2 := ft hR e2
 replace e7 := ft hR e7
 replace D_cn := D_cn.ext hk
 replace D_ci := D_ci.ext hk
 replace e14 := e14.q
 replace own_bo := own_bo.ext hk
 replace own_bm := own_bm.ext hk
 replace kw := kw.x hk
 clear hR hk hg hP
 refine zn (hK6 _ _ ?_)
 refine zc e14 (fun hc => ?_) (fun hc => ?_)
 ·
  have hE : errK x.k e ≠ 0 := by simpa using hc
  have h1 : tkE x e name ce = e := by rw [tkE, if_pos hE]
  have h2 : tkB x e name ce = false := by simp [tkB, hE]
  have h3 : tkA x A e name ce = A := by rw [tkA, h2]; rfl
  refine zq fun K8 hK8 => ?_
  refine rg mixed y7 zz7 ?_
  refine .mb rfl e7 ?_
  refine .al rfl ?_
  refine .dn fun a9 g W9 y9 zz9 hk hg hV hR hP => ?_
  obtain ⟨e6, -, -⟩ := hV
  replace D_cn := D_cn.ext hk
  replace D_ci := D_ci.ext hk
  replace e6 := e6.q
  replace own_bo := own_bo.ext hk
  replace own_bm := own_bm.ext hk
  replace kw := kw.x hk
  clear hR hk hg hP
  refine zn (hK8 _ _ ?_)
  refine wp_ret ?_
  refine ret1 rfl zz9 e6 ⟨_, rfl, kw, ?_⟩
  rw [h1, h3, h2]
  exact ⟨rd_nil _, own_bo, own_bm⟩
 have hE : errK x.k e = 0 := by simpa using hc
 have he0 := (errK_zero hE).1
 refine wp_skip (hK5 _ _ ?_)
 refine zq fun K10 hK10 => ?_
 refine rg mixed y7 zz7 ?_
 refine .mb rfl e0 ?_
 refine .i (sp_nilP (hlc rfl)) ?_
 refine .i (fo 0 (hlc rfl) Try.underlying74 rfl sz33 rfl) ?_
 refine .i (v := (.agg #[(.int .u8 (x.k)), (.int .i64 (x.n)), (.string (x.t)), (.slice cna (x.ns.length) cnc), (.slice cia (x.xs.length) cic)])) (loA (hlc rfl) own_bo trivial agg33 sz33 rfl rfl) ?_
 refine .mb rfl e1 ?_
 refine .op (φ := IsT (IsD (Fr W7) (V.d (getV (x) name))) (Is (.bool (getB (x) name)))) (st_t (st_d sub_all) (st_is _)) (sp_call2 (φ1 := IsD (SA w S [bo, bm]) (V.d (x))) (φ2 := Is (.string (name))) ent101 ((hlc rfl).dat (rdV_in (x := x) hxt D_cn D_ci : Rd W7 (SA w S [bo, bm]) (V.d (x)) _) sub_all) (hlc rfl) (fun g u1 u2 W hk hgk h1 h2 => by have h2 : u2 = _ := h2; subst u2; exact (Get_ok (x) (name) (by omega) W _ _ (fun b o h => sa_cln hS b o h.1) h1).mono (fun _ _ ⟨v, h1, h2, r1, h3, h4⟩ => ⟨v, h1, h2, r1, _, h3, fresh_d hk hgk h4, rfl⟩))) ?_
 refine .op (φ := IsT (IsD (Fr W7) (V.d (getV (x) name))) (Is (.bool (getB (x) name)))) (st_t (st_d sub_all) (st_is _)) (sp_move (hlc rfl)) ?_
 refine .da (X := Fr W7) (e := V.d (getV (x) name)) (sp_ext2 (hlc rfl) rfl) ?_
 refine .i (v := (.bool (getB (x) name))) (sp_ext2' (hlc rfl) rfl) ?_
 refine .alloc z33 ?_
 refine .dn fun a11 g W11 y11 zz11 hk hg hV hR hP => ?_
 obtain ⟨⟨b8_11, e8, hb8, own_b8_11⟩, e24, e23, -, -, -, -, -, -, -, -⟩ := hV
 have lo_b8_11 : w.heap.size ≤ b8_11 := Nat.le_trans kw.size (hg.lo _ _ hb8)
 have ne_bo_b8_11 : bo ≠ b8_11 := Nat.ne_of_lt (Nat.lt_of_lt_of_le own_bo.lt (hg.lo _ _ hb8))
 have ne_bm_b8_11 : bm ≠ b8_11 := Nat.ne_of_lt (Nat.lt_of_lt_of_le own_bm.lt (hg.lo _ _ hb8))
 have own_b8_11 : Own W11 b8_11 z5C 33 := own_b8_11
 replace e0 := ft hR e0
 replace e1 := ft hR e1
 replace e2 := ft hR e2
 replace e7 := ft hR e7
 replace D_cn := sa_more D_cn hk [b8_11] (in_cons (hg.lo _ _ hb8) in_nil)
 replace D_ci := sa_more D_ci hk [b8_11] (in_cons (hg.lo _ _ hb8) in_nil)
 obtain ⟨v23_11, ev⟩ : ∃ v, sl a11 23 = v := ⟨_, rfl⟩
 rw [ev] at e23
 have D_v23_11 : Rd W11 (SF w [b8_11, bo, bm]) (V.d (getV (x) name)) v23_11 := fr_end (M := [bo, bm]) e23 kw [b8_11] (in_cons ⟨_, hb8⟩ in_nil) (in_cons own_bo.lt (in_cons own_bm.lt in_nil))
 replace e23 := ev; clear ev
 obtain ⟨cn23_11a, cn23_11c, ci23_11a, ci23_11c, ev, ht_v23_11, D_cn23_11, D_ci23_11⟩ := rdV_out D_v23_11
 subst ev; clear D_v23_11
 replace e24 := e24.q
 replace own_bo := own_bo.ext hk
 replace own_bm := own_bm.ext hk
 replace kw := kw.x hk
 clear hR hk hg hP hb8
 refine tail_store e8 e23 sz33 rfl own_b8_11 (lbr rfl) (all_cons rfl (all_cons rfl (all_cons rfl (all_cons rfl (all_cons rfl all_nil))))) (fun W12 hs own_b8_11 => ?_)
 have own_b8_11 : Own W12 b8_11 [(.int .u8 ((getV (x) name).k)), (.int .i64 ((getV (x) name).n)), (.string ((getV (x) name).t)), (.slice cn23_11a (((getV (x) name).ns).length) cn23_11c), (.slice ci23_11a (((getV (x) name).xs).length) ci23_11c)] 33 := own_b8_11
 replace own_bo := own_store own_bo hs ne_bo_b8_11
 replace own_bm := ownM_store own_bm hs ne_bm_b8_11
 replace D_cn := sa_store D_cn hs (by simp)
 replace D_ci := sa_store D_ci hs (by simp)
 replace D_cn23_11 := sf_store D_cn23_11 hs (by simp)
 replace D_ci23_11 := sf_store D_ci23_11 hs (by simp)
 replace kw := keeps_store kw hs lo_b8_11
 clear hs
 refine tail_assign (v := (.bool (getB (x) name))) e24 (by rw [y11]; exact Nat.le_of_ble_eq_true rfl) (fun a13 y13 zz13 e9 hr => ?_)
 replace y13 := y13.trans y11; replace zz13 := zz13.trans zz11
 replace e0 := (hr 0 (by decide)).trans e0
 replace e1 := (hr 1 (by decide)).trans e1
 replace e2 := (hr 2 (by decide)).trans e2
 replace e7 := (hr 7 (by decide)).trans e7
 replace e8 := (hr 8 (by decide)).trans e8
 replace e23 := (hr 23 (by decide)).trans e23
 replace e24 := (hr 24 (by decide)).trans e24
 clear hr
 refine zn (hK10 _ _ ?_)
 refine zq fun K14 hK14 => ?_
 refine zq fun K15 hK15 => ?_
 refine rg mixed y13 zz13 ?_
 refine .mb rfl e9 ?_
 refine .i (sp_not (hlc rfl)) ?_
 refine .dn fun a16 g W16 y16 zz16 hk hg hV hR hP => ?_
 obtain ⟨e26, -, -⟩ := hV
 replace e0 := ft hR e0
 replace e1 := ft hR e1
 replace e2 := ft hR e2
 replace e7 := ft hR e7
 replace e8 := ft hR e8
 replace D_cn := D_cn.ext hk
 replace D_ci := D_ci.ext hk
 replace D_cn23_11 := D_cn23_11.ext hk
 replace D_ci23_11 := D_ci23_11.ext hk
 replace e26 := e26.q
 replace own_bo := own_bo.ext hk
 replace own_bm := own_bm.ext hk
 replace own_b8_11 := own_b8_11.ext hk
 replace kw := kw.x hk
 clear hR hk hg hP
 refine zn (hK15 _ _ ?_)
 refine zc e26 (fun hc => ?_) (fun hc => ?_)
 ·
  have hg0 : getB x name = false := by simpa using hc
  have h1 : tkE x e name ce = failK x.k e 6 := by rw [tkE, if_neg (by simp [hE]), if_pos hg0, failK, if_pos hE]
  have h2 : tkB x e name ce = false := by simp [tkB, hg0]
  have h3 : tkA x A e name ce = A := by rw [tkA, h2]; rfl
  refine zq fun K17 hK17 => ?_
  refine wp_reg (fun k => k ∉ [bo]) (Ψ := fun W => Own W bo [(.int .u8 (x.k)), (.int .i64 (x.n)), (.string (x.t)), (.slice cna (x.ns.length) cnc), (.slice cia (x.xs.length) cic), (.map (some bm)), (.int .i64 (e))] 74) mixed y16 zz16 stE_own own_bo ?_
  refine .mb rfl e0 ?_
  refine .callL2 (φ1 := Is (.pointer (some ⟨bo, 0, none⟩))) (φ2 := Is (.int .i64 (6))) (φ := Is (.tuple #[])) (Ψ' := fun W => Own W bo [(.int .u8 (x.k)), (.int .i64 (x.n)), (.string (x.t)), (.slice cna (x.ns.length) cnc), (.slice cia (x.xs.length) cic), (.map (some bm)), (.int .i64 (failK x.k e 6))] 74) ent22 (hlc rfl) Has.cst (st_is _) stE_own (fun g u1 u2 W hk hg h1 h2 hP => by have h1 : u1 = _ := h1; subst u1; have h2 : u2 = _ := h2; subst u2; exact (Fail_ok _ _ _ _ _ _ _ (6) W _ hP)) ?_
  refine .dn fun a18 g W18 y18 zz18 hk hg hV hR hP => ?_
  obtain ⟨-, -, -⟩ := hV
  replace e7 := ft hR e7
  replace D_cn := sa_keepL D_cn hk (by simp)
  replace D_ci := sa_keepL D_ci hk (by simp)
  replace D_cn23_11 := sf_keepL D_cn23_11 hk (by simp)
  replace D_ci23_11 := sf_keepL D_ci23_11 hk (by simp)
  replace own_bm := ownM_keepL own_bm hk (by simp [hne.symm])
  replace own_b8_11 := own_keepL own_b8_11 hk (by simp [ne_bo_b8_11.symm])
  have own_bo := hP
  replace own_bo : Own W18 bo [(.int .u8 (x.k)), (.int .i64 (x.n)), (.string (x.t)), (.slice cna (x.ns.length) cnc), (.slice cia (x.xs.length) cic), (.map (some bm)), (.int .i64 (failK x.k e 6))] 74 := own_bo
  replace kw := keeps_L kw hk (in_cons (.inr (by simp)) in_nil)
  clear hR hk hg hP
  refine zn (hK17 _ _ ?_)
  refine zq fun K19 hK19 => ?_
  refine rg mixed y18 zz18 ?_
  refine .mb rfl e7 ?_
  refine .al rfl ?_
  refine .dn fun a20 g W20 y20 zz20 hk hg hV hR hP => ?_
  obtain ⟨e6, -, -⟩ := hV
  replace D_cn := D_cn.ext hk
  replace D_ci := D_ci.ext hk
  replace e6 := e6.q
  replace own_bo := own_bo.ext hk
  replace own_bm := own_bm.ext hk
  replace own_b8_11 := own_b8_11.ext hk
  replace kw := kw.x hk
  clear hR hk hg hP
  refine zn (hK19 _ _ ?_)
  refine wp_ret ?_
  refine ret1 rfl zz20 e6 ⟨_, rfl, kw, ?_⟩
  rw [h1, h3, h2]
  exact ⟨rd_nil _, own_bo, own_bm⟩
 have hg1 : getB x name = true := by simpa using hc
 have hAn := hA name
 have hwg := Nat.le_trans (getV_wt x name) hx
 refine wp_skip (hK14 _ _ ?_)
 refine zq fun K21 hK21 => ?_
 refine rg mixed y16 zz16 ?_
 refine .mb rfl e2 ?_
 refine .i (v := (.agg #[(.int .u8 ((getV (x) name).k)), (.int .i64 ((getV (x) name).n)), (.string ((getV (x) name).t)), (.slice cn23_11a (((getV (x) name).ns).length) cn23_11c), (.slice ci23_11a (((getV (x) name).xs).length) ci23_11c)])) (loA (hbs rfl e8) own_b8_11 trivial agg33 sz33 rfl rfl) ?_
 refine .op (φ := IsT (IsD (Fr W16) (strsD (fv (getV x name)))) (Is (.int .i64 (ce (getV x name))))) (st_t (st_d sub_all) (st_is _)) (sp_callF1 ef (hlc rfl) (hlc rfl) (fun g W hk hgk => (hf W (kw.trans (.of_ext hk)) _ _ hwg (sf_fr (Rd.ext (rdV_in (x := (getV (x) name)) ht_v23_11 D_cn23_11 D_ci23_11 : Rd W16 (SF w [b8_11, bo, bm]) (V.d ((getV (x) name))) _) hk))).mono (fun _ _ ⟨v, h1, h2, r1, h3, h4⟩ => ⟨v, h1, h2, r1, _, h3, fresh_d hk hgk h4, rfl⟩))) ?_
 refine .op (φ := IsT (IsD (Fr W16) (strsD (fv (getV x name)))) (Is (.int .i64 (ce (getV x name))))) (st_t (st_d sub_all) (st_is _)) (sp_move (hlc rfl)) ?_
 refine .da (X := Fr W16) (e := strsD (fv (getV x name))) (sp_ext2 (hlc rfl) rfl) ?_
 refine .i (v := (.int .i64 (ce (getV x name)))) (sp_ext2' (hlc rfl) rfl) ?_
 refine .da (X := Fr W16) (e := strsD (fv (getV x name))) (sp_assign (hlc rfl)) ?_
 refine .al rfl ?_
 refine .dn fun a22 g W22 y22 zz22 hk hg hV hR hP => ?_
 obtain ⟨e11, e10, -, -, -, -, -, -, -⟩ := hV
 replace e0 := ft hR e0
 replace e1 := ft hR e1
 replace e7 := ft hR e7
 replace D_cn := D_cn.ext hk
 replace D_ci := D_ci.ext hk
 replace D_cn23_11 := D_cn23_11.ext hk
 replace D_ci23_11 := D_ci23_11.ext hk
 obtain ⟨v10_22, ev⟩ : ∃ v, sl a22 10 = v := ⟨_, rfl⟩
 rw [ev] at e10
 have D_v10_22 : Rd W22 (SF w [b8_11, bo, bm]) (strsD (fv (getV x name))) v10_22 := fr_end (M := [b8_11, bo, bm]) e10 kw [] in_nil (in_cons own_b8_11.lt (in_cons own_bo.lt (in_cons own_bm.lt in_nil)))
 replace e10 := ev; clear ev
 obtain ⟨v10_22a, v10_22c, ev, D2⟩ := rdS_out D_v10_22
 subst ev; replace D_v10_22 := D2; clear D2
 replace e11 := e11.q
 replace own_bo := own_bo.ext hk
 replace own_bm := own_bm.ext hk
 replace own_b8_11 := own_b8_11.ext hk
 replace kw := kw.x hk
 clear hR hk hg hP
 refine zn (hK21 _ _ ?_)
 refine zq fun K23 hK23 => ?_
 refine zq fun K24 hK24 => ?_
 refine rg mixed y22 zz22 ?_
 refine .mb rfl e11 ?_
 refine .i (sp_neq (hlc rfl) Has.cst) ?_
 refine .dn fun a25 g W25 y25 zz25 hk hg hV hR hP => ?_
 obtain ⟨e37, -, -⟩ := hV
 replace e0 := ft hR e0
 replace e1 := ft hR e1
 replace e7 := ft hR e7
 replace e10 := ft hR e10
 replace e11 := ft hR e11
 replace D_cn := D_cn.ext hk
 replace D_ci := D_ci.ext hk
 replace D_v10_22 := D_v10_22.ext hk
 replace e37 := e37.q
 replace own_bo := own_bo.ext hk
 replace own_bm := own_bm.ext hk
 replace own_b8_11 := own_b8_11.ext hk
 replace kw := kw.x hk
 clear hR hk hg hP
 refine zn (hK24 _ _ ?_)
 refine zc e37 (fun hc => ?_) (fun hc => ?_)
 ·
  have hce : ce (getV x name) ≠ 0 := by simpa using hc
  have h1 : tkE x e name ce = failK x.k e (ce (getV x name)) := by rw [tkE, if_neg (by simp [hE]), if_neg (by simp [hg1]), failK, if_pos hE]
  have h2 : tkB x e name ce = false := by simp [tkB, hce]
  have h3 : tkA x A e name ce = A := by rw [tkA, h2]; rfl
  refine zq fun K26 hK26 => ?_
  refine wp_reg (fun k => k ∉ [bo]) (Ψ := fun W => Own W bo [(.int .u8 (x.k)), (.int .i64 (x.n)), (.string (x.t)), (.slice cna (x.ns.length) cnc), (.slice cia (x.xs.length) cic), (.map (some bm)), (.int .i64 (e))] 74) mixed y25 zz25 stE_own own_bo ?_
  refine .mb rfl e0 ?_
  refine .mb rfl e11 ?_
  refine .callL2 (φ1 := Is (.pointer (some ⟨bo, 0, none⟩))) (φ2 := Is (.int .i64 (ce (getV x name)))) (φ := Is (.tuple #[])) (Ψ' := fun W => Own W bo [(.int .u8 (x.k)), (.int .i64 (x.n)), (.string (x.t)), (.slice cna (x.ns.length) cnc), (.slice cia (x.xs.length) cic), (.map (some bm)), (.int .i64 (failK x.k e (ce (getV x name))))] 74) ent22 (hlc rfl) (hlc rfl) (st_is _) stE_own (fun g u1 u2 W hk hg h1 h2 hP => by have h1 : u1 = _ := h1; subst u1; have h2 : u2 = _ := h2; subst u2; exact (Fail_ok _ _ _ _ _ _ _ (ce (getV x name)) W _ hP)) ?_
  refine .dn fun a27 g W27 y27 zz27 hk hg hV hR hP => ?_
  obtain ⟨-, -, -, -⟩ := hV
  replace e7 := ft hR e7
  replace D_cn := sa_keepL D_cn hk (by simp)
  replace D_ci := sa_keepL D_ci hk (by simp)
  replace D_v10_22 := sf_keepL D_v10_22 hk (by simp)
  replace own_bm := ownM_keepL own_bm hk (by simp [hne.symm])
  replace own_b8_11 := own_keepL own_b8_11 hk (by simp [ne_bo_b8_11.symm])
  have own_bo := hP
  replace own_bo : Own W27 bo [(.int .u8 (x.k)), (.int .i64 (x.n)), (.string (x.t)), (.slice cna (x.ns.length) cnc), (.slice cia (x.xs.length) cic), (.map (some bm)), (.int .i64 (failK x.k e (ce (getV x name))))] 74 := own_bo
  replace kw := keeps_L kw hk (in_cons (.inr (by simp)) in_nil)
  clear hR hk hg hP
  refine zn (hK26 _ _ ?_)
  refine zq fun K28 hK28 => ?_
  refine rg mixed y27 zz27 ?_
  refine .mb rfl e7 ?_
  refine .al rfl ?_
  refine .dn fun a29 g W29 y29 zz29 hk hg hV hR hP => ?_
  obtain ⟨e6, -, -⟩ := hV
  replace D_cn := D_cn.ext hk
  replace D_ci := D_ci.ext hk
  replace e6 := e6.q
  replace own_bo := own_bo.ext hk
  replace own_bm := own_bm.ext hk
  replace own_b8_11 := own_b8_11.ext hk
  replace kw := kw.x hk
  clear hR hk hg hP
  refine zn (hK28 _ _ ?_)
  refine wp_ret ?_
  refine ret1 rfl zz29 e6 ⟨_, rfl, kw, ?_⟩
  rw [h1, h3, h2]
  exact ⟨rd_nil _, own_bo, own_bm⟩
 have hce : ce (getV x name) = 0 := by simpa using hc
 have h1 : tkE x e name ce = e := by rw [tkE, if_neg (by simp [hE]), if_neg (by simp [hg1]), hce, he0]
 have h2 : tkB x e name ce = true := by simp [tkB, hE, hg1, hce]
 have h3 : tkA x A e name ce = mset A name (mget A name + 1) := by rw [tkA, h2]; rfl
 refine wp_skip (hK23 _ _ ?_)
 refine zq fun K30 hK30 => ?_
 refine rg mixed y25 zz25 ?_
 refine .mb rfl e0 ?_
 refine .i (sp_nilP (hlc rfl)) ?_
 refine .i (fo 5 (hlc rfl) Try.underlying74 rfl sz72 rfl) ?_
 refine .i (lo1 (hlc rfl) own_bo trivial agg72 sz72 rfl) ?_
 refine .mb rfl e1 ?_
 refine .i (sp_lookup Try.underlying72 Try.underlying9 z3 (hlc rfl) (hlc rfl) own_bm trivial) ?_
 refine .i (sp_add (hlc rfl) Has.cst (i64_in (by omega))) ?_
 refine .dn fun a31 g W31 y31 zz31 hk hg hV hR hP => ?_
 obtain ⟨e48, -, e46, e45, -, -, -, -⟩ := hV
 replace e10 := ft hR e10
 replace D_cn := D_cn.ext hk
 replace D_ci := D_ci.ext hk
 replace D_v10_22 := D_v10_22.ext hk
 replace e45 := e45.q
 replace e46 := e46.q
 replace e48 := e48.q
 replace own_bo := own_bo.ext hk
 replace own_bm := own_bm.ext hk
 replace own_b8_11 := own_b8_11.ext hk
 replace kw := kw.x hk
 clear hR hk hg hP
 refine tail_updM Try.underlying72 Try.underlying9 e45 e46 e48 own_bm (fun W32 hs own_bm => ?_)
 have own_bm : OwnM W32 bm (mset A name ((mget A name : Int) + (1 : Int))) := own_bm
 replace own_bo := own_store own_bo hs hne
 replace own_b8_11 := own_store own_b8_11 hs ne_bm_b8_11.symm
 replace D_cn := sa_store D_cn hs (by simp)
 replace D_ci := sa_store D_ci hs (by simp)
 replace D_v10_22 := sf_store D_v10_22 hs (by simp)
 replace kw := keeps_storeN kw hs (by simp)
 clear hs
 refine zn (hK30 _ _ ?_)
 refine zq fun K33 hK33 => ?_
 refine rg mixed y31 zz31 ?_
 refine .mb rfl e10 ?_
 refine .al rfl ?_
 refine .dn fun a34 g W34 y34 zz34 hk hg hV hR hP => ?_
 obtain ⟨e6, -, -⟩ := hV
 replace D_cn := D_cn.ext hk
 replace D_ci := D_ci.ext hk
 replace D_v10_22 := D_v10_22.ext hk
 replace e6 := e6.q
 replace own_bo := own_bo.ext hk
 replace own_bm := own_bm.ext hk
 replace own_b8_11 := own_b8_11.ext hk
 replace kw := kw.x hk
 clear hR hk hg hP
 refine zn (hK33 _ _ ?_)
 refine wp_ret ?_
 refine ret1 rfl zz34 e6 ⟨_, rfl, kw, ?_⟩
 rw [h1, h3, h2]
 exact ⟨sf_fr D_v10_22, own_bo, own_bm⟩
set_option maxRecDepth 100000 in
theorem takeI_ok (x : V) (A : As) (e : Int) (hA : AB 1000000 A) (hx : x.wt ≤ 1073741824) (hxt : x.t.size ≤ maxLen) (name : ByteArray) (fi : FuncId) (cb : Array Value) (ce : V → Int) (fv : V → Int) (w : World) (S : BSet) (cn ci : Value) (bo bm : Nat) (hS : ∀ b o, S b o → Cln o) (hM : ∀ b ∈ [bo, bm], ∀ o, ¬ S b o) (hne : bo ≠ bm) (hv : Rd w S (strsD x.ns) cn) (hu : Rd w S (valsD x.xs) ci) (own_bo : Own w bo [.int .u8 x.k, .int .i64 x.n, .string x.t, cn, ci, .map (some bm), .int .i64 (e)] 74) (own_bm : OwnM w bm A) (ef : Enters Try.prog fi) (hf : ∀ W, Keeps (fun k => k ∉ [bo, bm]) w W → ∀ (y : V) (v : Value), y.wt ≤ 1073741824 → Rd W (Fr w) y.d v → Calls Try.prog fi (#[v] ++ cb) W (Ret W fun r _ => r = .tuple #[.int .i64 (fv y), .int .i64 (ce y)])) : Calls Try.prog 104 #[.pointer (some ⟨bo, 0, none⟩), .string name, .func (.func fi) #[] cb] w (RetL w [bo, bm] fun u W => u = .int .i64 (if tkB x e name ce then fv (getV x name) else 0) ∧ Own W bo [.int .u8 x.k, .int .i64 x.n, .string x.t, cn, ci, .map (some bm), .int .i64 (tkE x e name ce)] 74 ∧ OwnM W bm (tkA x A e name ce)) := by
 have hwx := wt_eq x
 have hwl := wts_len x.xs
 have hwn := wtN_len x.ns
 obtain ⟨cna, cnc, ev, D_cn⟩ := rdS_out (rd_argM (M := [bo, bm]) hv hM)
 subst ev
 obtain ⟨cia, cic, ev, D_ci⟩ := rdVs_out (rd_argM (M := [bo, bm]) hu hM)
 subst ev
 refine enter Try.func104 rfl Try.ntmps104 (lbr rfl) fun a0 y0 zz0 harg => ?_
 have e0 : sl a0 0 = (.pointer (some ⟨bo, 0, none⟩)) := harg 0 (lbr rfl)
 have e1 : sl a0 1 = (.string (name)) := harg 1 (lbr rfl)
 have e2 : sl a0 2 = (.func (.func fi) #[] cb) := harg 2 (lbr rfl)
 have kw := Keeps.refl (fun k => k ∉ [bo, bm]) w
 clear harg
 refine zq fun K1 hK1 => ?_
 refine rg mixed y0 zz0 ?_
 refine .ac ?_
 refine .dn fun a2 g W2 y2 zz2 hk hg hV hR hP => ?_
 obtain ⟨-, -⟩ := hV
 replace e0 := ft hR e0
 replace e1 := ft hR e1
 replace e2 := ft hR e2
 replace D_cn := D_cn.ext hk
 replace D_ci := D_ci.ext hk
 replace own_bo := own_bo.ext hk
 replace own_bm := own_bm.ext hk
 replace kw := kw.x hk
 clear hR hk hg hP
 refine zn (hK1 _ _ ?_)
 refine zq fun K3 hK3 => ?_
 refine rg mixed y2 zz2 ?_
 refine .ac ?_
 refine .dn fun a4 g W4 y4 zz4 hk hg hV hR hP => ?_
 obtain ⟨e7, -⟩ := hV
 replace e0 := ft hR e0
 replace e1 := ft hR e1
 replace e2 := ft hR e2
 replace D_cn := D_cn.ext hk
 replace D_ci := D_ci.ext hk
 replace e7 := e7.q
 replace own_bo := own_bo.ext hk
 replace own_bm := own_bm.ext hk
 replace kw := kw.x hk
 clear hR hk hg hP
 refine zn (hK3 _ _ ?_)
 refine zq fun K5 hK5 => ?_
 refine zq fun K6 hK6 => ?_
 refine rg mixed y4 zz4 ?_
 refine .mb rfl e0 ?_
 refine .i (v := (.int .i64 (errK x.k e))) (sp_call1 (φ1 := Is (.pointer (some ⟨bo, 0, none⟩))) ent24 (hlc rfl) (fun g u1 W hk hgk h1 => by have h1 : u1 = _ := h1; subst u1; exact Err_ok _ _ _ _ _ _ _ W _ (own_bo.ext hk))) ?_
 refine .i (sp_neq (hlc rfl) Has.cst) ?_
 refine .dn fun a7 g W7 y7 zz7 hk hg hV hR hP => ?_
 obtain ⟨e14, -, -, -⟩ := hV
 replace e0 := ft hR e0
 replace e1 := ft hR e1
 replace e2 := ft hR e2
 replace e7 := ft hR e7
 replace D_cn := D_cn.ext hk
 replace D_ci := D_ci.ext hk
 replace e14 := e14.q
 replace own_bo := own_bo.ext hk
 replace own_bm := own_bm.ext hk
 replace kw := kw.x hk
 clear hR hk hg hP
 refine zn (hK6 _ _ ?_)
 refine zc e14 (fun hc => ?_) (fun hc => ?_)
 ·
  have hE : errK x.k e ≠ 0 := by simpa using hc
  have h1 : tkE x e name ce = e := by rw [tkE, if_pos hE]
  have h2 : tkB x e name ce = false := by simp [tkB, hE]
  have h3 : tkA x A e name ce = A := by rw [tkA, h2]; rfl
  refine zq fun K8 hK8 => ?_
  refine rg mixed y7 zz7 ?_
  refine .mb rfl e7 ?_
  refine .al rfl ?_
  refine .dn fun a9 g W9 y9 zz9 hk hg hV hR hP => ?_
  obtain ⟨e6, -, -⟩ := hV
  replace D_cn := D_cn.ext hk
  replace D_ci := D_ci.ext hk
  replace e6 := e6.q
  replace own_bo := own_bo.ext hk
  replace own_bm := own_bm.ext hk
  replace kw := kw.x hk
  clear hR hk hg hP
  refine zn (hK8 _ _ ?_)
  refine wp_ret ?_
  refine ret1 rfl zz9 e6 ⟨_, rfl, kw, ?_⟩
  rw [h1, h3, h2]
  exact ⟨rfl, own_bo, own_bm⟩
 have hE : errK x.k e = 0 := by simpa using hc
 have he0 := (errK_zero hE).1
 refine wp_skip (hK5 _ _ ?_)
 refine zq fun K10 hK10 => ?_
 refine rg mixed y7 zz7 ?_
 refine .mb rfl e0 ?_
 refine .i (sp_nilP (hlc rfl)) ?_
 refine .i (fo 0 (hlc rfl) Try.underlying74 rfl sz33 rfl) ?_
 refine .i (v := (.agg #[(.int .u8 (x.k)), (.int .i64 (x.n)), (.string (x.t)), (.slice cna (x.ns.length) cnc), (.slice cia (x.xs.length) cic)])) (loA (hlc rfl) own_bo trivial agg33 sz33 rfl rfl) ?_
 refine .mb rfl e1 ?_
 refine .op (φ := IsT (IsD (Fr W7) (V.d (getV (x) name))) (Is (.bool (getB (x) name)))) (st_t (st_d sub_all) (st_is _)) (sp_call2 (φ1 := IsD (SA w S [bo, bm]) (V.d (x))) (φ2 := Is (.string (name))) ent101 ((hlc rfl).dat (rdV_in (x := x) hxt D_cn D_ci : Rd W7 (SA w S [bo, bm]) (V.d (x)) _) sub_all) (hlc rfl) (fun g u1 u2 W hk hgk h1 h2 => by have h2 : u2 = _ := h2; subst u2; exact (Get_ok (x) (name) (by omega) W _ _ (fun b o h => sa_cln hS b o h.1) h1).mono (fun _ _ ⟨v, h1, h2, r1, h3, h4⟩ => ⟨v, h1, h2, r1, _, h3, fresh_d hk hgk h4, rfl⟩))) ?_
 refine .op (φ := IsT (IsD (Fr W7) (V.d (getV (x) name))) (Is (.bool (getB (x) name)))) (st_t (st_d sub_all) (st_is _)) (sp_move (hlc rfl)) ?_
 refine .da (X := Fr W7) (e := V.d (getV (x) name)) (sp_ext2 (hlc rfl) rfl) ?_
 refine .i (v := (.bool (getB (x) name))) (sp_ext2' (hlc rfl) rfl) ?_
 refine .alloc z33 ?_
 refine .dn fun a11 g W11 y11 zz11 hk hg hV hR hP => ?_
 obtain ⟨⟨b8_11, e8, hb8, own_b8_11⟩, e24, e23, -, -, -, -, -, -, -, -⟩ := hV
 have lo_b8_11 : w.heap.size ≤ b8_11 := Nat.le_trans kw.size (hg.lo _ _ hb8)
 have ne_bo_b8_11 : bo ≠ b8_11 := Nat.ne_of_lt (Nat.lt_of_lt_of_le own_bo.lt (hg.lo _ _ hb8))
 have ne_bm_b8_11 : bm ≠ b8_11 := Nat.ne_of_lt (Nat.lt_of_lt_of_le own_bm.lt (hg.lo _ _ hb8))
 have own_b8_11 : Own W11 b8_11 z5C 33 := own_b8_11
 replace e0 := ft hR e0
 replace e1 := ft hR e1
 replace e2 := ft hR e2
 replace e7 := ft hR e7
 replace D_cn := sa_more D_cn hk [b8_11] (in_cons (hg.lo _ _ hb8) in_nil)
 replace D_ci := sa_more D_ci hk [b8_11] (in_cons (hg.lo _ _ hb8) in_nil)
 obtain ⟨v23_11, ev⟩ : ∃ v, sl a11 23 = v := ⟨_, rfl⟩
 rw [ev] at e23
 have D_v23_11 : Rd W11 (SF w [b8_11, bo, bm]) (V.d (getV (x) name)) v23_11 := fr_end (M := [bo, bm]) e23 kw [b8_11] (in_cons ⟨_, hb8⟩ in_nil) (in_cons own_bo.lt (in_cons own_bm.lt in_nil))
 replace e23 := ev; clear ev
 obtain ⟨cn23_11a, cn23_11c, ci23_11a, ci23_11c, ev, ht_v23_11, D_cn23_11, D_ci23_11⟩ := rdV_out D_v23_11
 subst ev; clear D_v23_11
 replace e24 := e24.q
 replace own_bo := own_bo.ext hk
 replace own_bm := own_bm.ext hk
 replace kw := kw.x hk
 clear hR hk hg hP hb8
 refine tail_store e8 e23 sz33 rfl own_b8_11 (lbr rfl) (all_cons rfl (all_cons rfl (all_cons rfl (all_cons rfl (all_cons rfl all_nil))))) (fun W12 hs own_b8_11 => ?_)
 have own_b8_11 : Own W12 b8_11 [(.int .u8 ((getV (x) name).k)), (.int .i64 ((getV (x) name).n)), (.string ((getV (x) name).t)), (.slice cn23_11a (((getV (x) name).ns).length) cn23_11c), (.slice ci23_11a (((getV (x) name).xs).length) ci23_11c)] 33 := own_b8_11
 replace own_bo := own_store own_bo hs ne_bo_b8_11
 replace own_bm := ownM_store own_bm hs ne_bm_b8_11
 replace D_cn := sa_store D_cn hs (by simp)
 replace D_ci := sa_store D_ci hs (by simp)
 replace D_cn23_11 := sf_store D_cn23_11 hs (by simp)
 replace D_ci23_11 := sf_store D_ci23_11 hs (by simp)
 replace kw := keeps_store kw hs lo_b8_11
 clear hs
 refine tail_assign (v := (.bool (getB (x) name))) e24 (by rw [y11]; exact Nat.le_of_ble_eq_true rfl) (fun a13 y13 zz13 e9 hr => ?_)
 replace y13 := y13.trans y11; replace zz13 := zz13.trans zz11
 replace e0 := (hr 0 (by decide)).trans e0
 replace e1 := (hr 1 (by decide)).trans e1
 replace e2 := (hr 2 (by decide)).trans e2
 replace e7 := (hr 7 (by decide)).trans e7
 replace e8 := (hr 8 (by decide)).trans e8
 replace e23 := (hr 23 (by decide)).trans e23
 replace e24 := (hr 24 (by decide)).trans e24
 clear hr
 refine zn (hK10 _ _ ?_)
 refine zq fun K14 hK14 => ?_
 refine zq fun K15 hK15 => ?_
 refine rg mixed y13 zz13 ?_
 refine .mb rfl e9 ?_
 refine .i (sp_not (hlc rfl)) ?_
 refine .dn fun a16 g W16 y16 zz16 hk hg hV hR hP => ?_
 obtain ⟨e26, -, -⟩ := hV
 replace e0 := ft hR e0
 replace e1 := ft hR e1
 replace e2 := ft hR e2
 replace e7 := ft hR e7
 replace e8 := ft hR e8
 replace D_cn := D_cn.ext hk
 replace D_ci := D_ci.ext hk
 replace D_cn23_11 := D_cn23_11.ext hk
 replace D_ci23_11 := D_ci23_11.ext hk
 replace e26 := e26.q
 replace own_bo := own_bo.ext hk
 replace own_bm := own_bm.ext hk
 replace own_b8_11 := own_b8_11.ext hk
 replace kw := kw.x hk
 clear hR hk hg hP
 refine zn (hK15 _ _ ?_)
 refine zc e26 (fun hc => ?_) (fun hc => ?_)
 ·
  have hg0 : getB x name = false := by simpa using hc
  have h1 : tkE x e name ce = failK x.k e 6 := by rw [tkE, if_neg (by simp [hE]), if_pos hg0, failK, if_pos hE]
  have h2 : tkB x e name ce = false := by simp [tkB, hg0]
  have h3 : tkA x A e name ce = A := by rw [tkA, h2]; rfl
  refine zq fun K17 hK17 => ?_
  refine wp_reg (fun k => k ∉ [bo]) (Ψ := fun W => Own W bo [(.int .u8 (x.k)), (.int .i64 (x.n)), (.string (x.t)), (.slice cna (x.ns.length) cnc), (.slice cia (x.xs.length) cic), (.map (some bm)), (.int .i64 (e))] 74) mixed y16 zz16 stE_own own_bo ?_
  refine .mb rfl e0 ?_
  refine .callL2 (φ1 := Is (.pointer (some ⟨bo, 0, none⟩))) (φ2 := Is (.int .i64 (6))) (φ := Is (.tuple #[])) (Ψ' := fun W => Own W bo [(.int .u8 (x.k)), (.int .i64 (x.n)), (.string (x.t)), (.slice cna (x.ns.length) cnc), (.slice cia (x.xs.length) cic), (.map (some bm)), (.int .i64 (failK x.k e 6))] 74) ent22 (hlc rfl) Has.cst (st_is _) stE_own (fun g u1 u2 W hk hg h1 h2 hP => by have h1 : u1 = _ := h1; subst u1; have h2 : u2 = _ := h2; subst u2; exact (Fail_ok _ _ _ _ _ _ _ (6) W _ hP)) ?_
  refine .dn fun a18 g W18 y18 zz18 hk hg hV hR hP => ?_
  obtain ⟨-, -, -⟩ := hV
  replace e7 := ft hR e7
  replace D_cn := sa_keepL D_cn hk (by simp)
  replace D_ci := sa_keepL D_ci hk (by simp)
  replace D_cn23_11 := sf_keepL D_cn23_11 hk (by simp)
  replace D_ci23_11 := sf_keepL D_ci23_11 hk (by simp)
  replace own_bm := ownM_keepL own_bm hk (by simp [hne.symm])
  replace own_b8_11 := own_keepL own_b8_11 hk (by simp [ne_bo_b8_11.symm])
  have own_bo := hP
  replace own_bo : Own W18 bo [(.int .u8 (x.k)), (.int .i64 (x.n)), (.string (x.t)), (.slice cna (x.ns.length) cnc), (.slice cia (x.xs.length) cic), (.map (some bm)), (.int .i64 (failK x.k e 6))] 74 := own_bo
  replace kw := keeps_L kw hk (in_cons (.inr (by simp)) in_nil)
  clear hR hk hg hP
  refine zn (hK17 _ _ ?_)
  refine zq fun K19 hK19 => ?_
  refine rg mixed y18 zz18 ?_
  refine .mb rfl e7 ?_
  refine .al rfl ?_
  refine .dn fun a20 g W20 y20 zz20 hk hg hV hR hP => ?_
  obtain ⟨e6, -, -⟩ := hV
  replace D_cn := D_cn.ext hk
  replace D_ci := D_ci.ext hk
  replace e6 := e6.q
  replace own_bo := own_bo.ext hk
  replace own_bm := own_bm.ext hk
  replace own_b8_11 := own_b8_11.ext hk
  replace kw := kw.x hk
  clear hR hk hg hP
  refine zn (hK19 _ _ ?_)
  refine wp_ret ?_
  refine ret1 rfl zz20 e6 ⟨_, rfl, kw, ?_⟩
  rw [h1, h3, h2]
  exact ⟨rfl, own_bo, own_bm⟩
 have hg1 : getB x name = true := by simpa using hc
 have hAn := hA name
 have hwg := Nat.le_trans (getV_wt x name) hx
 refine wp_skip (hK14 _ _ ?_)
 refine zq fun K21 hK21 => ?_
 refine rg mixed y16 zz16 ?_
 refine .mb rfl e2 ?_
 refine .i (v := (.agg #[(.int .u8 ((getV (x) name).k)), (.int .i64 ((getV (x) name).n)), (.string ((getV (x) name).t)), (.slice cn23_11a (((getV (x) name).ns).length) cn23_11c), (.slice ci23_11a (((getV (x) name).xs).length) ci23_11c)])) (loA (hbs rfl e8) own_b8_11 trivial agg33 sz33 rfl rfl) ?_
 refine .i (v := (.tuple #[(.int .i64 (fv (getV x name))), (.int .i64 (ce (getV x name)))])) (sp_callF1 ef (hlc rfl) (hlc rfl) (fun g W hk hgk => hf W (kw.trans (.of_ext hk)) _ _ hwg (sf_fr (Rd.ext (rdV_in (x := (getV (x) name)) ht_v23_11 D_cn23_11 D_ci23_11 : Rd W16 (SF w [b8_11, bo, bm]) (V.d ((getV (x) name))) _) hk)))) ?_
 refine .i (sp_move (hlc rfl)) ?_
 refine .i (v := (.int .i64 (fv (getV x name)))) (sp_extT (hlc rfl) rfl) ?_
 refine .i (v := (.int .i64 (ce (getV x name)))) (sp_extT (hlc rfl) rfl) ?_
 refine .al rfl ?_
 refine .al rfl ?_
 refine .dn fun a22 g W22 y22 zz22 hk hg hV hR hP => ?_
 obtain ⟨e11, e10, -, -, -, -, -, -, -⟩ := hV
 replace e0 := ft hR e0
 replace e1 := ft hR e1
 replace e7 := ft hR e7
 replace D_cn := D_cn.ext hk
 replace D_ci := D_ci.ext hk
 replace D_cn23_11 := D_cn23_11.ext hk
 replace D_ci23_11 := D_ci23_11.ext hk
 replace e10 := e10.q
 replace e11 := e11.q
 replace own_bo := own_bo.ext hk
 replace own_bm := own_bm.ext hk
 replace own_b8_11 := own_b8_11.ext hk
 replace kw := kw.x hk
 clear hR hk hg hP
 refine zn (hK21 _ _ ?_)
 refine zq fun K23 hK23 => ?_
 refine zq fun K24 hK24 => ?_
 refine rg mixed y22 zz22 ?_
 refine .mb rfl e11 ?_
 refine .i (sp_neq (hlc rfl) Has.cst) ?_
 refine .dn fun a25 g W25 y25 zz25 hk hg hV hR hP => ?_
 obtain ⟨e37, -, -⟩ := hV
 replace e0 := ft hR e0
 replace e1 := ft hR e1
 replace e7 := ft hR e7
 replace e10 := ft hR e10
 replace e11 := ft hR e11
 replace D_cn := D_cn.ext hk
 replace D_ci := D_ci.ext hk
 replace e37 := e37.q
 replace own_bo := own_bo.ext hk
 replace own_bm := own_bm.ext hk
 replace own_b8_11 := own_b8_11.ext hk
 replace kw := kw.x hk
 clear hR hk hg hP
 refine zn (hK24 _ _ ?_)
 refine zc e37 (fun hc => ?_) (fun hc => ?_)
 ·
  have hce : ce (getV x name) ≠ 0 := by simpa using hc
  have h1 : tkE x e name ce = failK x.k e (ce (getV x name)) := by rw [tkE, if_neg (by simp [hE]), if_neg (by simp [hg1]), failK, if_pos hE]
  have h2 : tkB x e name ce = false := by simp [tkB, hce]
  have h3 : tkA x A e name ce = A := by rw [tkA, h2]; rfl
  refine zq fun K26 hK26 => ?_
  refine wp_reg (fun k => k ∉ [bo]) (Ψ := fun W => Own W bo [(.int .u8 (x.k)), (.int .i64 (x.n)), (.string (x.t)), (.slice cna (x.ns.length) cnc), (.slice cia (x.xs.length) cic), (.map (some bm)), (.int .i64 (e))] 74) mixed y25 zz25 stE_own own_bo ?_
  refine .mb rfl e0 ?_
  refine .mb rfl e11 ?_
  refine .callL2 (φ1 := Is (.pointer (some ⟨bo, 0, none⟩))) (φ2 := Is (.int .i64 (ce (getV x name)))) (φ := Is (.tuple #[])) (Ψ' := fun W => Own W bo [(.int .u8 (x.k)), (.int .i64 (x.n)), (.string (x.t)), (.slice cna (x.ns.length) cnc), (.slice cia (x.xs.length) cic), (.map (some bm)), (.int .i64 (failK x.k e (ce (getV x name))))] 74) ent22 (hlc rfl) (hlc rfl) (st_is _) stE_own (fun g u1 u2 W hk hg h1 h2 hP => by have h1 : u1 = _ := h1; subst u1; have h2 : u2 = _ := h2; subst u2; exact (Fail_ok _ _ _ _ _ _ _ (ce (getV x name)) W _ hP)) ?_
  refine .dn fun a27 g W27 y27 zz27 hk hg hV hR hP => ?_
  obtain ⟨-, -, -, -⟩ := hV
  replace e7 := ft hR e7
  replace D_cn := sa_keepL D_cn hk (by simp)
  replace D_ci := sa_keepL D_ci hk (by simp)
  replace own_bm := ownM_keepL own_bm hk (by simp [hne.symm])
  replace own_b8_11 := own_keepL own_b8_11 hk (by simp [ne_bo_b8_11.symm])
  have own_bo := hP
  replace own_bo : Own W27 bo [(.int .u8 (x.k)), (.int .i64 (x.n)), (.string (x.t)), (.slice cna (x.ns.length) cnc), (.slice cia (x.xs.length) cic), (.map (some bm)), (.int .i64 (failK x.k e (ce (getV x name))))] 74 := own_bo
  replace kw := keeps_L kw hk (in_cons (.inr (by simp)) in_nil)
  clear hR hk hg hP
  refine zn (hK26 _ _ ?_)
  refine zq fun K28 hK28 => ?_
  refine rg mixed y27 zz27 ?_
  refine .mb rfl e7 ?_
  refine .al rfl ?_
  refine .dn fun a29 g W29 y29 zz29 hk hg hV hR hP => ?_
  obtain ⟨e6, -, -⟩ := hV
  replace D_cn := D_cn.ext hk
  replace D_ci := D_ci.ext hk
  replace e6 := e6.q
  replace own_bo := own_bo.ext hk
  replace own_bm := own_bm.ext hk
  replace own_b8_11 := own_b8_11.ext hk
  replace kw := kw.x hk
  clear hR hk hg hP
  refine zn (hK28 _ _ ?_)
  refine wp_ret ?_
  refine ret1 rfl zz29 e6 ⟨_, rfl, kw, ?_⟩
  rw [h1, h3, h2]
  exact ⟨rfl, own_bo, own_bm⟩
 have hce : ce (getV x name) = 0 := by simpa using hc
 have h1 : tkE x e name ce = e := by rw [tkE, if_neg (by simp [hE]), if_neg (by simp [hg1]), hce, he0]
 have h2 : tkB x e name ce = true := by simp [tkB, hE, hg1, hce]
 have h3 : tkA x A e name ce = mset A name (mget A name + 1) := by rw [tkA, h2]; rfl
 refine wp_skip (hK23 _ _ ?_)
 refine zq fun K30 hK30 => ?_
 refine rg mixed y25 zz25 ?_
 refine .mb rfl e0 ?_
 refine .i (sp_nilP (hlc rfl)) ?_
 refine .i (fo 5 (hlc rfl) Try.underlying74 rfl sz72 rfl) ?_
 refine .i (lo1 (hlc rfl) own_bo trivial agg72 sz72 rfl) ?_
 refine .mb rfl e1 ?_
 refine .i (sp_lookup Try.underlying72 Try.underlying9 z3 (hlc rfl) (hlc rfl) own_bm trivial) ?_
 refine .i (sp_add (hlc rfl) Has.cst (i64_in (by omega))) ?_
 refine .dn fun a31 g W31 y31 zz31 hk hg hV hR hP => ?_
 obtain ⟨e48, -, e46, e45, -, -, -, -⟩ := hV
 replace e10 := ft hR e10
 replace D_cn := D_cn.ext hk
 replace D_ci := D_ci.ext hk
 replace e45 := e45.q
 replace e46 := e46.q
 replace e48 := e48.q
 replace own_bo := own_bo.ext hk
 replace own_bm := own_bm.ext hk
 replace own_b8_11 := own_b8_11.ext hk
 replace kw := kw.x hk
 clear hR hk hg hP
 refine tail_updM Try.underlying72 Try.underlying9 e45 e46 e48 own_bm (fun W32 hs own_bm => ?_)
 have own_bm : OwnM W32 bm (mset A name ((mget A name : Int) + (1 : Int))) := own_bm
 replace own_bo := own_store own_bo hs hne
 replace own_b8_11 := own_store own_b8_11 hs ne_bm_b8_11.symm
 replace D_cn := sa_store D_cn hs (by simp)
 replace D_ci := sa_store D_ci hs (by simp)
 replace kw := keeps_storeN kw hs (by simp)
 clear hs
 refine zn (hK30 _ _ ?_)
 refine zq fun K33 hK33 => ?_
 refine rg mixed y31 zz31 ?_
 refine .mb rfl e10 ?_
 refine .al rfl ?_
 refine .dn fun a34 g W34 y34 zz34 hk hg hV hR hP => ?_
 obtain ⟨e6, -, -⟩ := hV
 replace D_cn := D_cn.ext hk
 replace D_ci := D_ci.ext hk
 replace e6 := e6.q
 replace own_bo := own_bo.ext hk
 replace own_bm := own_bm.ext hk
 replace own_b8_11 := own_b8_11.ext hk
 replace kw := kw.x hk
 clear hR hk hg hP
 refine zn (hK33 _ _ ?_)
 refine wp_ret ?_
 refine ret1 rfl zz34 e6 ⟨_, rfl, kw, ?_⟩
 rw [h1, h3, h2]
 exact ⟨rfl, own_bo, own_bm⟩
end Go.Proofs.Ytnobijngkpflcaa
namespace Go.Proofs.Ytnobijngkpflcaa
open Go.Eng
set_option maxRecDepth 100000 in
theorem Texts_ok (x : V) (A : As) (e : Int) (hA : AB 1000000 A) (hx : x.wt ≤ 1073741824) (hxt : x.t.size ≤ maxLen) (name : ByteArray) (most : Int) (w : World) (S : BSet) (cn ci : Value) (bo bm : Nat) (hS : ∀ b o, S b o → Cln o) (hM : ∀ b ∈ [bo, bm], ∀ o, ¬ S b o) (hne : bo ≠ bm) (hv : Rd w S (strsD x.ns) cn) (hu : Rd w S (valsD x.xs) ci) (own_bo : Own w bo [.int .u8 x.k, .int .i64 x.n, .string x.t, cn, ci, .map (some bm), .int .i64 (e)] 74) (own_bm : OwnM w bm A) : Calls Try.prog 41 #[.pointer (some ⟨bo, 0, none⟩), .string name, .int .i64 most] w (RetL w [bo, bm] fun u W => Rd W (Fr w) (strsD (if tkB x e name (textsE most) then textsL most (getV x name) else [])) u ∧ Own W bo [.int .u8 x.k, .int .i64 x.n, .string x.t, cn, ci, .map (some bm), .int .i64 (tkE x e name (textsE most))] 74 ∧ OwnM W bm (tkA x A e name (textsE most))) := by
 obtain ⟨cna, cnc, ev, D_cn⟩ := rdS_out (rd_argM (M := [bo, bm]) hv hM)
 subst ev
 obtain ⟨cia, cic, ev, D_ci⟩ := rdVs_out (rd_argM (M := [bo, bm]) hu hM)
 subst ev
 refine enter Try.func41 rfl Try.ntmps41 (lbr rfl) fun a0 y0 zz0 harg => ?_
 have e0 : sl a0 0 = (.pointer (some ⟨bo, 0, none⟩)) := harg 0 (lbr rfl)
 have e1 : sl a0 1 = (.string (name)) := harg 1 (lbr rfl)
 have e2 : sl a0 2 = (.int .i64 (most)) := harg 2 (lbr rfl)
 have kw := Keeps.refl (fun k => k ∉ [bo, bm]) w
 clear harg
 refine zq fun K1 hK1 => ?_
 refine rg mixed y0 zz0 ?_
 refine .boxOp (v := (.int .i64 (most))) (hbs rfl e2) ?_
 refine .ac ?_
 refine .dn fun a2 g W2 y2 zz2 hk hg hV hR hP => ?_
 obtain ⟨-, ⟨b5_2, e5, hb5, own_b5_2⟩, -⟩ := hV
 have lo_b5_2 : w.heap.size ≤ b5_2 := Nat.le_trans kw.size (hg.lo _ _ hb5)
 have ne_bo_b5_2 : bo ≠ b5_2 := Nat.ne_of_lt (Nat.lt_of_lt_of_le own_bo.lt (hg.lo _ _ hb5))
 have ne_bm_b5_2 : bm ≠ b5_2 := Nat.ne_of_lt (Nat.lt_of_lt_of_le own_bm.lt (hg.lo _ _ hb5))
 have own_b5_2 : Own W2 b5_2 [(.int .i64 (most))] 3 := own_b5_2
 replace e0 := ft hR e0
 replace e1 := ft hR e1
 replace D_cn := sa_more D_cn hk [b5_2] (in_cons (hg.lo _ _ hb5) in_nil)
 replace D_ci := sa_more D_ci hk [b5_2] (in_cons (hg.lo _ _ hb5) in_nil)
 replace own_bo := own_bo.ext hk
 replace own_bm := own_bm.ext hk
 replace kw := kw.x hk
 clear hR hk hg hP hb5
 refine zn (hK1 _ _ ?_)
 refine zq fun K3 hK3 => ?_
 refine wp_reg (fun k => k ∉ [bo, bm]) (Ψ := fun W => Own W bo [(.int .u8 (x.k)), (.int .i64 (x.n)), (.string (x.t)), (.slice cna (x.ns.length) cnc), (.slice cia (x.xs.length) cic), (.map (some bm)), (.int .i64 (e))] 74 ∧ OwnM W bm (A)) mixed y2 zz2 (stE_and stE_own stE_ownM) ⟨own_bo, own_bm⟩ ?_
 refine .mb rfl e0 ?_
 refine .mb rfl e1 ?_
 refine .i (v := (.func (.func 99) #[] #[(.pointer (some ⟨b5_2, 0, none⟩))])) (sp_mkF1 (hbs rfl e5)) ?_
 refine .callL3 (φ1 := Is (.pointer (some ⟨bo, 0, none⟩))) (φ2 := Is (.string (name))) (φ3 := Is (.func (.func 99) #[] #[(.pointer (some ⟨b5_2, 0, none⟩))])) (φ := IsD (Fr W2) (strsD (if tkB x e name (textsE most) then textsL most (getV x name) else []))) (Ψ' := fun W => Own W bo [(.int .u8 (x.k)), (.int .i64 (x.n)), (.string (x.t)), (.slice cna (x.ns.length) cnc), (.slice cia (x.xs.length) cic), (.map (some bm)), (.int .i64 (tkE x e name (textsE most)))] 74 ∧ OwnM W bm (tkA x A e name (textsE most))) ent98 (hlc rfl) (hlc rfl) (hlc rfl) (st_d (sub_frnl (in_cons own_bo.lt (in_cons own_bm.lt in_nil)))) (stE_and stE_own stE_ownM) (fun g u1 u2 u3 W hk hg h1 h2 h3 hP => by have h1 : u1 = _ := h1; subst u1; have h2 : u2 = _ := h2; subst u2; have h3 : u3 = _ := h3; subst u3; exact (takeS_ok (x) (A) (e) hA hx hxt name 99 #[(.pointer (some ⟨b5_2, 0, none⟩))] (textsE most) (textsL most) W _ _ _ _ _ (sa_cln hS) (sa_notin (by simp)) hne (sa_keepL D_cn hk (by simp)) (sa_keepL D_ci hk (by simp)) hP.1 hP.2 ent99 (fun W2 hk2 y v hy hv2 => texts1_ok y most hy W2 _ v b5_2 hv2 (own_keepL (own_keepL own_b5_2 hk (by simp [ne_bo_b5_2.symm, ne_bm_b5_2.symm])) hk2 (by simp [ne_bo_b5_2.symm, ne_bm_b5_2.symm])))).mono (fun _ _ ⟨v, h1, h2, h3, h4⟩ => ⟨v, h1, h2, fresh_d hk hg h3, h4⟩)) ?_
 refine .op (φ := IsD (Fr W2) (strsD (if tkB x e name (textsE most) then textsL most (getV x name) else []))) (st_d (sub_frnl (in_cons own_bo.lt (in_cons own_bm.lt in_nil)))) (sp_assign (hlc rfl)) ?_
 refine .dn fun a4 g W4 y4 zz4 hk hg hV hR hP => ?_
 obtain ⟨e6, -, -, -, -, -⟩ := hV
 obtain ⟨v6_4, ev⟩ : ∃ v, sl a4 6 = v := ⟨_, rfl⟩
 rw [ev] at e6
 have D_v6_4 : Rd W4 (SF w [b5_2, bo, bm]) (strsD (if tkB x e name (textsE most) then textsL most (getV x name) else [])) v6_4 := fr_end (M := [b5_2, bo, bm]) e6 kw [] in_nil (in_cons own_b5_2.lt (in_cons own_bo.lt (in_cons own_bm.lt in_nil)))
 replace e6 := ev; clear ev
 obtain ⟨v6_4a, v6_4c, ev, D2⟩ := rdS_out D_v6_4
 subst ev; replace D_v6_4 := D2; clear D2
 replace D_cn := sa_keepL D_cn hk (by simp)
 replace D_ci := sa_keepL D_ci hk (by simp)
 replace own_b5_2 := own_keepL own_b5_2 hk (by simp [ne_bo_b5_2.symm, ne_bm_b5_2.symm])
 obtain ⟨own_bo, own_bm⟩ := hP
 replace own_bo : Own W4 bo [(.int .u8 (x.k)), (.int .i64 (x.n)), (.string (x.t)), (.slice cna (x.ns.length) cnc), (.slice cia (x.xs.length) cic), (.map (some bm)), (.int .i64 (tkE x e name (textsE most)))] 74 := own_bo
 replace own_bm : OwnM W4 bm (tkA x A e name (textsE most)) := own_bm
 replace kw := keeps_L kw hk (in_cons (.inr (by simp)) (in_cons (.inr (by simp)) in_nil))
 clear hR hk hg
 refine zn (hK3 _ _ ?_)
 refine wp_ret ?_
 refine ret1 rfl zz4 e6 ⟨_, rfl, kw, ?_⟩
 exact ⟨sf_fr D_v6_4, own_bo, own_bm⟩
set_option maxRecDepth 100000 in
theorem Num_ok (x : V) (A : As) (e : Int) (hA : AB 1000000 A) (hx : x.wt ≤ 1073741824) (hxt : x.t.size ≤ maxLen) (name : ByteArray) (lo hi : Int) (w : World) (S : BSet) (cn ci : Value) (bo bm : Nat) (hS : ∀ b o, S b o → Cln o) (hM : ∀ b ∈ [bo, bm], ∀ o, ¬ S b o) (hne : bo ≠ bm) (hv : Rd w S (strsD x.ns) cn) (hu : Rd w S (valsD x.xs) ci) (own_bo : Own w bo [.int .u8 x.k, .int .i64 x.n, .string x.t, cn, ci, .map (some bm), .int .i64 (e)] 74) (own_bm : OwnM w bm A) : Calls Try.prog 44 #[.pointer (some ⟨bo, 0, none⟩), .string name, .int .i64 lo, .int .i64 hi] w (RetL w [bo, bm] fun u W => u = .int .i64 (if tkB x e name (numE lo hi) then numV lo hi (getV x name) else 0) ∧ Own W bo [.int .u8 x.k, .int .i64 x.n, .string x.t, cn, ci, .map (some bm), .int .i64 (tkE x e name (numE lo hi))] 74 ∧ OwnM W bm (tkA x A e name (numE lo hi))) := by
 obtain ⟨cna, cnc, ev, D_cn⟩ := rdS_out (rd_argM (M := [bo, bm]) hv hM)
 subst ev
 obtain ⟨cia, cic, ev, D_ci⟩ := rdVs_out (rd_argM (M := [bo, bm]) hu hM)
 subst ev
 refine enter Try.func44 rfl Try.ntmps44 (lbr rfl) fun a0 y0 zz0 harg => ?_
 have e0 : sl a0 0 = (.pointer (some ⟨bo, 0, none⟩)) := harg 0 (lbr rfl)
 have e1 : sl a0 1 = (.string (name)) := harg 1 (lbr rfl)
 have e2 : sl a0 2 = (.int .i64 (lo)) := harg 2 (lbr rfl)
 have e3 : sl a0 3 = (.int .i64 (hi)) := harg 3 (lbr rfl)
 have kw := Keeps.refl (fun k => k ∉ [bo, bm]) w
 clear harg
 refine zq fun K1 hK1 => ?_
 refine rg mixed y0 zz0 ?_
 refine .boxOp (v := (.int .i64 (lo))) (hbs rfl e2) ?_
 refine .boxOp (v := (.int .i64 (hi))) (hbs rfl e3) ?_
 refine .ac ?_
 refine .dn fun a2 g W2 y2 zz2 hk hg hV hR hP => ?_
 obtain ⟨-, ⟨b7_2, e7, hb7, own_b7_2⟩, ⟨b6_2, e6, hb6, own_b6_2⟩, -⟩ := hV
 have lo_b7_2 : w.heap.size ≤ b7_2 := Nat.le_trans kw.size (hg.lo _ _ hb7)
 have ne_bo_b7_2 : bo ≠ b7_2 := Nat.ne_of_lt (Nat.lt_of_lt_of_le own_bo.lt (hg.lo _ _ hb7))
 have ne_bm_b7_2 : bm ≠ b7_2 := Nat.ne_of_lt (Nat.lt_of_lt_of_le own_bm.lt (hg.lo _ _ hb7))
 have own_b7_2 : Own W2 b7_2 [(.int .i64 (hi))] 2 := own_b7_2
 have lo_b6_2 : w.heap.size ≤ b6_2 := Nat.le_trans kw.size (hg.lo _ _ hb6)
 have ne_bo_b6_2 : bo ≠ b6_2 := Nat.ne_of_lt (Nat.lt_of_lt_of_le own_bo.lt (hg.lo _ _ hb6))
 have ne_bm_b6_2 : bm ≠ b6_2 := Nat.ne_of_lt (Nat.lt_of_lt_of_le own_bm.lt (hg.lo _ _ hb6))
 have own_b6_2 : Own W2 b6_2 [(.int .i64 (lo))] 2 := own_b6_2
 have ne_b7_2_b6_2 : b7_2 ≠ b6_2 := fun h => by have := hg.inj _ _ _ hb7 (h ▸ hb6); cases this
 replace e0 := ft hR e0
 replace e1 := ft hR e1
 replace D_cn := sa_more D_cn hk [b7_2, b6_2] (in_cons (hg.lo _ _ hb7) (in_cons (hg.lo _ _ hb6) in_nil))
 replace D_ci := sa_more D_ci hk [b7_2, b6_2] (in_cons (hg.lo _ _ hb7) (in_cons (hg.lo _ _ hb6) in_nil))
 replace own_bo := own_bo.ext hk
 replace own_bm := own_bm.ext hk
 replace kw := kw.x hk
 clear hR hk hg hP hb7 hb6
 refine zn (hK1 _ _ ?_)
 refine zq fun K3 hK3 => ?_
 refine wp_reg (fun k => k ∉ [bo, bm]) (Ψ := fun W => Own W bo [(.int .u8 (x.k)), (.int .i64 (x.n)), (.string (x.t)), (.slice cna (x.ns.length) cnc), (.slice cia (x.xs.length) cic), (.map (some bm)), (.int .i64 (e))] 74 ∧ OwnM W bm (A)) mixed y2 zz2 (stE_and stE_own stE_ownM) ⟨own_bo, own_bm⟩ ?_
 refine .mb rfl e0 ?_
 refine .mb rfl e1 ?_
 refine .i (v := (.func (.func 105) #[] #[(.pointer (some ⟨b6_2, 0, none⟩)), (.pointer (some ⟨b7_2, 0, none⟩))])) (sp_mkF2 (hbs rfl e6) (hbs rfl e7)) ?_
 refine .callL3 (φ1 := Is (.pointer (some ⟨bo, 0, none⟩))) (φ2 := Is (.string (name))) (φ3 := Is (.func (.func 105) #[] #[(.pointer (some ⟨b6_2, 0, none⟩)), (.pointer (some ⟨b7_2, 0, none⟩))])) (φ := Is (.int .i64 (if tkB x e name (numE lo hi) then numV lo hi (getV x name) else 0))) (Ψ' := fun W => Own W bo [(.int .u8 (x.k)), (.int .i64 (x.n)), (.string (x.t)), (.slice cna (x.ns.length) cnc), (.slice cia (x.xs.length) cic), (.map (some bm)), (.int .i64 (tkE x e name (numE lo hi)))] 74 ∧ OwnM W bm (tkA x A e name (numE lo hi))) ent104 (hlc rfl) (hlc rfl) (hlc rfl) (st_is _) (stE_and stE_own stE_ownM) (fun g u1 u2 u3 W hk hg h1 h2 h3 hP => by have h1 : u1 = _ := h1; subst u1; have h2 : u2 = _ := h2; subst u2; have h3 : u3 = _ := h3; subst u3; exact (takeI_ok (x) (A) (e) hA hx hxt name 105 #[(.pointer (some ⟨b6_2, 0, none⟩)), (.pointer (some ⟨b7_2, 0, none⟩))] (numE lo hi) (numV lo hi) W _ _ _ _ _ (sa_cln hS) (sa_notin (by simp)) hne (sa_keepL D_cn hk (by simp)) (sa_keepL D_ci hk (by simp)) hP.1 hP.2 ent105 (fun W2 hk2 y v hy hv2 => num1_ok y lo hi W2 _ v b6_2 b7_2 hv2 (own_keepL (own_keepL own_b6_2 hk (by simp [ne_bo_b6_2.symm, ne_bm_b6_2.symm])) hk2 (by simp [ne_bo_b6_2.symm, ne_bm_b6_2.symm])) (own_keepL (own_keepL own_b7_2 hk (by simp [ne_bo_b7_2.symm, ne_bm_b7_2.symm])) hk2 (by simp [ne_bo_b7_2.symm, ne_bm_b7_2.symm]))))) ?_
 refine .al rfl ?_
 refine .dn fun a4 g W4 y4 zz4 hk hg hV hR hP => ?_
 obtain ⟨e8, -, -, -, -, -⟩ := hV
 replace e8 := e8.q
 replace D_cn := sa_keepL D_cn hk (by simp)
 replace D_ci := sa_keepL D_ci hk (by simp)
 replace own_b7_2 := own_keepL own_b7_2 hk (by simp [ne_bo_b7_2.symm, ne_bm_b7_2.symm])
 replace own_b6_2 := own_keepL own_b6_2 hk (by simp [ne_bo_b6_2.symm, ne_bm_b6_2.symm])
 obtain ⟨own_bo, own_bm⟩ := hP
 replace own_bo : Own W4 bo [(.int .u8 (x.k)), (.int .i64 (x.n)), (.string (x.t)), (.slice cna (x.ns.length) cnc), (.slice cia (x.xs.length) cic), (.map (some bm)), (.int .i64 (tkE x e name (numE lo hi)))] 74 := own_bo
 replace own_bm : OwnM W4 bm (tkA x A e name (numE lo hi)) := own_bm
 replace kw := keeps_L kw hk (in_cons (.inr (by simp)) (in_cons (.inr (by simp)) in_nil))
 clear hR hk hg
 refine zn (hK3 _ _ ?_)
 refine wp_ret ?_
 refine ret1 rfl zz4 e8 ⟨_, rfl, kw, ?_⟩
 exact ⟨rfl, own_bo, own_bm⟩
set_option maxRecDepth 100000 in
theorem Done_ok (x : V) (A : As) (e : Int) (w : World) (S : BSet) (cn ci : Value) (bo bm : Nat) (hv : Rd w S (strsD x.ns) cn) (own_bo : Own w bo [.int .u8 x.k, .int .i64 x.n, .string x.t, cn, ci, .map (some bm), .int .i64 (e)] 74) (own_bm : OwnM w bm A) : Calls Try.prog 32 #[.pointer (some ⟨bo, 0, none⟩)] w (Ret w fun u _ => u = .int .i64 (doneE x A e)) := by
 have hmn := rd_lenS hv
 simp only [maxLen] at hmn
 obtain ⟨cna, cnc, ev, D_cn⟩ := rdS_out (rd_arg hv)
 subst ev
 refine enter Try.func32 rfl Try.ntmps32 (lbr rfl) fun a0 y0 zz0 harg => ?_
 have e0 : sl a0 0 = (.pointer (some ⟨bo, 0, none⟩)) := harg 0 (lbr rfl)
 have kw := Keeps.refl All w
 clear harg
 refine zq fun K1 hK1 => ?_
 refine rg mixed y0 zz0 ?_
 refine .ac ?_
 refine .dn fun a2 g W2 y2 zz2 hk hg hV hR hP => ?_
 obtain ⟨-, -⟩ := hV
 replace e0 := ft hR e0
 replace D_cn := D_cn.ext hk
 replace own_bo := own_bo.ext hk
 replace own_bm := own_bm.ext hk
 replace kw := kw.x hk
 clear hR hk hg hP
 refine zn (hK1 _ _ ?_)
 refine zq fun K3 hK3 => ?_
 refine zq fun K4 hK4 => ?_
 refine rg mixed y2 zz2 ?_
 refine .mb rfl e0 ?_
 refine .i (v := (.int .i64 (errK x.k e))) (sp_call1 (φ1 := Is (.pointer (some ⟨bo, 0, none⟩))) ent24 (hlc rfl) (fun g u1 W hk hgk h1 => by have h1 : u1 = _ := h1; subst u1; exact Err_ok _ _ _ _ _ _ _ W _ (own_bo.ext hk))) ?_
 refine .al rfl ?_
 refine .dn fun a5 g W5 y5 zz5 hk hg hV hR hP => ?_
 obtain ⟨e3, -, -, -⟩ := hV
 replace e0 := ft hR e0
 replace D_cn := D_cn.ext hk
 replace e3 := e3.q
 replace own_bo := own_bo.ext hk
 replace own_bm := own_bm.ext hk
 replace kw := kw.x hk
 clear hR hk hg hP
 refine zn (hK4 _ _ ?_)
 refine zq fun K6 hK6 => ?_
 refine rg mixed y5 zz5 ?_
 refine .mb rfl e3 ?_
 refine .i (sp_neq (hlc rfl) Has.cst) ?_
 refine .dn fun a7 g W7 y7 zz7 hk hg hV hR hP => ?_
 obtain ⟨e9, -, -⟩ := hV
 replace e0 := ft hR e0
 replace e3 := ft hR e3
 replace D_cn := D_cn.ext hk
 replace e9 := e9.q
 replace own_bo := own_bo.ext hk
 replace own_bm := own_bm.ext hk
 replace kw := kw.x hk
 clear hR hk hg hP
 refine zn (hK6 _ _ ?_)
 refine zc e9 (fun hc => ?_) (fun hc => ?_)
 ·
  have hE : errK x.k e ≠ 0 := by simpa using hc
  have hf : doneE x A e = errK x.k e := by rw [doneE, if_pos hE]
  refine zq fun K8 hK8 => ?_
  refine rg mixed y7 zz7 ?_
  refine .mb rfl e3 ?_
  refine .al rfl ?_
  refine .dn fun a9 g W9 y9 zz9 hk hg hV hR hP => ?_
  obtain ⟨e2, -, -⟩ := hV
  replace D_cn := D_cn.ext hk
  replace e2 := e2.q
  replace own_bo := own_bo.ext hk
  replace own_bm := own_bm.ext hk
  replace kw := kw.x hk
  clear hR hk hg hP
  refine zn (hK8 _ _ ?_)
  refine wp_ret ?_
  refine ret1 rfl zz9 e2 ⟨_, rfl, kw, ?_⟩
  rw [hf]
 have hE : errK x.k e = 0 := by simpa using hc
 refine wp_skip (hK3 _ _ ?_)
 refine zq fun K10 hK10 => ?_
 refine zq fun K11 hK11 => ?_
 refine rg mixed y7 zz7 ?_
 refine .mb rfl e0 ?_
 refine .i (sp_nilP (hlc rfl)) ?_
 refine .i (fo 0 (hlc rfl) Try.underlying74 rfl sz33 rfl) ?_
 refine .i (fo 3 (hlc rfl) Try.underlying33 rfl sz23 rfl) ?_
 refine .i (lo1 (hlc rfl) own_bo trivial agg23 sz23 rfl) ?_
 refine .i (sp_lenSs Try.underlying23 ((hlc rfl).dat D_cn sub_all)) ?_
 refine .i (sp_move Has.cst) ?_
 refine .dn fun a12 g W12 y12 zz12 hk hg hV hR hP => ?_
 obtain ⟨e17, e16, e15, -, -, -, -, -⟩ := hV
 replace e0 := ft hR e0
 replace D_cn := D_cn.ext hk
 replace e15 := e15.q
 replace e16 := e16.q
 replace e17 := e17.q
 replace own_bo := own_bo.ext hk
 replace own_bm := own_bm.ext hk
 replace kw := kw.x hk
 clear hR hk hg hP
 refine zn (hK11 _ _ ?_)
 refine wp_block ?_
 refine wp_for (x.ns.length) (fun k a W => a.tmps.size = 29 ∧ a.defers = [] ∧ Keeps All w W ∧ sl a 0 = (.pointer (some ⟨bo, 0, none⟩)) ∧ sl a 15 = (.slice cna (x.ns.length) cnc) ∧ sl a 16 = (.int .i64 (x.ns.length)) ∧ sl a 17 = (.int .i64 ((k : Nat))) ∧ Own W bo [(.int .u8 (x.k)), (.int .i64 (x.n)), (.string (x.t)), (.slice cna (x.ns.length) cnc), ci, (.map (some bm)), (.int .i64 (e))] 74 ∧ OwnM W bm (A) ∧ Rd W (SA w S []) (strsD (x.ns)) (.slice cna (x.ns.length) cnc) ∧ (∀ i (h : i < x.ns.length), i < k → mget A x.ns[i] ≠ 0)) ⟨y12, zz12, kw, e0, e15, e16, (e17.trans (congrArg (Value.int .i64) (rfl))), own_bo, own_bm, D_cn, fun i h hi => absurd hi (by omega)⟩ ?_
 clear kw e0 e15 e16 e17 own_bo own_bm D_cn
 rintro k a13 W13 hkk ⟨y13, zz13, kw, e0, e15, e16, e17, own_bo, own_bm, D_cn, hinv⟩
 refine zq fun K14 hK14 => ?_
 refine rg mixed y13 zz13 ?_
 refine .i (sp_lss (hbs rfl e17) (hbs rfl e16)) ?_
 refine .dn fun a15 g W15 y15 zz15 hk hg hV hR hP => ?_
 obtain ⟨e18, -⟩ := hV
 replace e0 := ft hR e0
 replace e15 := ft hR e15
 replace e16 := ft hR e16
 replace e17 := ft hR e17
 replace D_cn := D_cn.ext hk
 replace e18 := e18.q
 replace own_bo := own_bo.ext hk
 replace own_bm := own_bm.ext hk
 replace kw := kw.x hk
 clear hR hk hg hP
 refine zn (hK14 _ _ ?_)
 refine zq fun K16 hK16 => ?_
 refine zc e18 (fun hc => ?_) (fun hc => ?_)
 ·
  have hlt : k < x.ns.length := by simpa using hc
  refine wp_skip (hK16 _ _ ?_)
  refine zq fun K17 hK17 => ?_
  refine wp_block ?_
  refine zq fun K18 hK18 => ?_
  refine rg mixed y15 zz15 ?_
  refine .rf (sp_indexS (i := k) ((hbs rfl e15).dat D_cn sub_all) (hbs rfl e17) Try.underlying23 sz9 rfl hlt) ?_
  refine .i (sp_loadStr (hlc rfl) agg9 sz9) ?_
  refine .al rfl ?_
  refine .dn fun a19 g W19 y19 zz19 hk hg hV hR hP => ?_
  obtain ⟨e5, -, -, -⟩ := hV
  replace e0 := ft hR e0
  replace e15 := ft hR e15
  replace e16 := ft hR e16
  replace e17 := ft hR e17
  replace D_cn := D_cn.ext hk
  replace e5 := e5.q
  replace own_bo := own_bo.ext hk
  replace own_bm := own_bm.ext hk
  replace kw := kw.x hk
  clear hR hk hg hP
  refine zn (hK18 _ _ ?_)
  refine zq fun K20 hK20 => ?_
  refine rg mixed y19 zz19 ?_
  refine .mb rfl e0 ?_
  refine .i (sp_nilP (hlc rfl)) ?_
  refine .i (fo 5 (hlc rfl) Try.underlying74 rfl sz72 rfl) ?_
  refine .i (lo1 (hlc rfl) own_bo trivial agg72 sz72 rfl) ?_
  refine .mb rfl e5 ?_
  refine .i (sp_lookup Try.underlying72 Try.underlying9 z3 (hlc rfl) (hlc rfl) own_bm trivial) ?_
  refine .i (sp_eql (hlc rfl) Has.cst) ?_
  refine .dn fun a21 g W21 y21 zz21 hk hg hV hR hP => ?_
  obtain ⟨e27, -, -, -, -, -, -, -⟩ := hV
  replace e0 := ft hR e0
  replace e15 := ft hR e15
  replace e16 := ft hR e16
  replace e17 := ft hR e17
  replace D_cn := D_cn.ext hk
  replace e27 := e27.q
  replace own_bo := own_bo.ext hk
  replace own_bm := own_bm.ext hk
  replace kw := kw.x hk
  clear hR hk hg hP
  refine zn (hK20 _ _ ?_)
  refine zc e27 (fun hc => ?_) (fun hc => ?_)
  ·
   have h0 : mget A x.ns[k] = 0 := by simpa using hc
   have hf : doneE x A e = 11 := by rw [doneE, if_neg (by simp [hE]), done_false hlt h0]; rfl
   refine zq fun K22 hK22 => ?_
   refine rg mixed y21 zz21 ?_
   refine .ac ?_
   refine .dn fun a23 g W23 y23 zz23 hk hg hV hR hP => ?_
   obtain ⟨e2, -⟩ := hV
   replace D_cn := D_cn.ext hk
   replace e2 := e2.q
   replace own_bo := own_bo.ext hk
   replace own_bm := own_bm.ext hk
   replace kw := kw.x hk
   clear hR hk hg hP
   refine zn (hK22 _ _ ?_)
   refine wp_ret ?_
   refine ret1 rfl zz23 e2 ⟨_, rfl, kw, ?_⟩
   rw [hf]
  have h0 : mget A x.ns[k] ≠ 0 := by simpa using hc
  refine wp_skip (hK17 _ _ ?_)
  refine rg mixed y21 zz21 ?_
  refine .i (sp_add (hbs rfl e17) Has.cst (i64_in (by omega))) ?_
  refine .i (sp_move (hlc rfl)) ?_
  refine .dn fun a24 g W24 y24 zz24 hk hg hV hR hP => ?_
  obtain ⟨e17, -, -⟩ := hV
  replace e0 := ft hR e0
  replace e15 := ft hR e15
  replace e16 := ft hR e16
  replace D_cn := D_cn.ext hk
  replace e17 := e17.q
  replace own_bo := own_bo.ext hk
  replace own_bm := own_bm.ext hk
  replace kw := kw.x hk
  clear hR hk hg hP
  exact tail_nil ⟨hlt, y24, zz24, kw, e0, e15, e16, (e17.trans (congrArg (Value.int .i64) (by simp))), own_bo, own_bm, D_cn, fun i h hi => by rcases Nat.lt_succ_iff_lt_or_eq.1 hi with h1 | h1; exact hinv i h h1; subst h1; exact h0⟩
 have hge0 : ¬ k < x.ns.length := by simpa using hc
 have hge : k = x.ns.length := by omega
 have hf : doneE x A e = 0 := by rw [doneE, if_neg (by simp [hE]), if_pos (done_true fun i hi => hinv i hi (by omega))]
 refine wp_exit (hK10 _ _ ?_)
 refine zq fun K25 hK25 => ?_
 refine rg mixed y15 zz15 ?_
 refine .ac ?_
 refine .dn fun a26 g W26 y26 zz26 hk hg hV hR hP => ?_
 obtain ⟨e2, -⟩ := hV
 replace D_cn := D_cn.ext hk
 replace e2 := e2.q
 replace own_bo := own_bo.ext hk
 replace own_bm := own_bm.ext hk
 replace kw := kw.x hk
 clear hR hk hg hP
 refine zn (hK25 _ _ ?_)
 refine wp_ret ?_
 refine ret1 rfl zz26 e2 ⟨_, rfl, kw, ?_⟩
 rw [hf]
end Go.Proofs.Ytnobijngkpflcaa
namespace Go.Proofs.Ytnobijngkpflcaa
open Go.Eng
set_option maxRecDepth 100000 in
theorem Of_ok (x : V) (hx : x.wt ≤ 1073741824) (hof : ofE x = 0) (w : World) (S : BSet) (v : Value) (hS : ∀ b o, S b o → Cln o) (hv : Rd w S x.d v) : Calls Try.prog 21 #[v] w (Ret w fun u W => PkAt w W 74 x [] 0 u) := by
 have hwx := wt_eq x
 have hwl := wts_len x.xs
 have hwn := wtN_len x.ns
 have hk5 : x.k = 5 ∧ x.ns.length = x.xs.length ∧ asc x.ns = true := by
   unfold ofE at hof
   split at hof
   · cases hof
   · split at hof
     · cases hof
     · rename_i h1 h2
       have h3 : asc x.ns = true := by cases hq : asc x.ns with | true => rfl | false => exact absurd (.inr hq) h2
       exact ⟨by omega, by omega, h3⟩
 obtain ⟨cn0a, cn0c, ci0a, ci0c, ev, ht0, D_cn0, D_ci0⟩ := rdV_out (rd_arg hv)
 subst ev
 refine enter Try.func21 rfl Try.ntmps21 (lbr rfl) fun a0 y0 zz0 harg => ?_
 have e0 : sl a0 0 = (.agg #[(.int .u8 (x.k)), (.int .i64 (x.n)), (.string (x.t)), (.slice cn0a (x.ns.length) cn0c), (.slice ci0a (x.xs.length) ci0c)]) := harg 0 (lbr rfl)
 have kw := Keeps.refl All w
 clear harg
 refine zq fun K1 hK1 => ?_
 refine rg mixed y0 zz0 ?_
 refine .boxOp (v := (.agg #[(.int .u8 (x.k)), (.int .i64 (x.n)), (.string (x.t)), (.slice cn0a (x.ns.length) cn0c), (.slice ci0a (x.xs.length) ci0c)])) (hbs rfl e0) ?_
 refine .ac ?_
 refine .dn fun a2 g W2 y2 zz2 hk hg hV hR hP => ?_
 obtain ⟨-, ⟨b1_2, e1, hb1, own_b1_2⟩, -⟩ := hV
 have lo_b1_2 : w.heap.size ≤ b1_2 := Nat.le_trans kw.size (hg.lo _ _ hb1)
 have own_b1_2 : Own W2 b1_2 [(.int .u8 (x.k)), (.int .i64 (x.n)), (.string (x.t)), (.slice cn0a (x.ns.length) cn0c), (.slice ci0a (x.xs.length) ci0c)] 33 := own_b1_2
 replace D_cn0 := sa_more D_cn0 hk [b1_2] (in_cons (hg.lo _ _ hb1) in_nil)
 replace D_ci0 := sa_more D_ci0 hk [b1_2] (in_cons (hg.lo _ _ hb1) in_nil)
 replace kw := kw.x hk
 clear hR hk hg hP hb1
 refine zn (hK1 _ _ ?_)
 refine zq fun K3 hK3 => ?_
 refine zq fun K4 hK4 => ?_
 refine rg mixed y2 zz2 ?_
 refine .i (fo 0 (hbs rfl e1) Try.underlying33 rfl sz5 rfl) ?_
 refine .i (lo1 (hlc rfl) own_b1_2 trivial agg5 sz5 rfl) ?_
 refine .i (sp_neq (hlc rfl) Has.cst) ?_
 refine .dn fun a5 g W5 y5 zz5 hk hg hV hR hP => ?_
 obtain ⟨e6, -, -, -⟩ := hV
 replace e1 := ft hR e1
 replace D_cn0 := D_cn0.ext hk
 replace D_ci0 := D_ci0.ext hk
 replace e6 := e6.q
 replace own_b1_2 := own_b1_2.ext hk
 replace kw := kw.x hk
 clear hR hk hg hP
 refine zn (hK4 _ _ ?_)
 refine zc e6 (fun hc => ?_) (fun hc => ?_)
 ·
  exfalso
  simp [hk5.1] at hc
 refine wp_skip (hK3 _ _ ?_)
 refine zq fun K6 hK6 => ?_
 refine zq fun K7 hK7 => ?_
 refine rg mixed y5 zz5 ?_
 refine .i (fo 3 (hbs rfl e1) Try.underlying33 rfl sz23 rfl) ?_
 refine .i (lo1 (hlc rfl) own_b1_2 trivial agg23 sz23 rfl) ?_
 refine .i (sp_lenSs Try.underlying23 ((hlc rfl).dat D_cn0 sub_all)) ?_
 refine .i (fo 4 (hbs rfl e1) Try.underlying33 rfl sz31 rfl) ?_
 refine .i (lo1 (hlc rfl) own_b1_2 trivial agg31 sz31 rfl) ?_
 refine .i (sp_lenVs Try.underlying31 ((hlc rfl).dat D_ci0 sub_all)) ?_
 refine .i (sp_neq (hlc rfl) (hlc rfl)) ?_
 refine .dn fun a8 g W8 y8 zz8 hk hg hV hR hP => ?_
 obtain ⟨e15, -, -, -, -, -, -, -⟩ := hV
 replace e1 := ft hR e1
 replace D_cn0 := D_cn0.ext hk
 replace D_ci0 := D_ci0.ext hk
 replace e15 := e15.q
 replace own_b1_2 := own_b1_2.ext hk
 replace kw := kw.x hk
 clear hR hk hg hP
 refine zn (hK7 _ _ ?_)
 refine zc e15 (fun hc => ?_) (fun hc => ?_)
 ·
  exfalso
  simp [hk5.2.1] at hc
 refine wp_skip (hK6 _ _ ?_)
 refine zq fun K9 hK9 => ?_
 refine zq fun K10 hK10 => ?_
 refine rg mixed y8 zz8 ?_
 refine .ac ?_
 refine .dn fun a11 g W11 y11 zz11 hk hg hV hR hP => ?_
 obtain ⟨e3, -⟩ := hV
 replace e1 := ft hR e1
 replace D_cn0 := D_cn0.ext hk
 replace D_ci0 := D_ci0.ext hk
 replace e3 := e3.q
 replace own_b1_2 := own_b1_2.ext hk
 replace kw := kw.x hk
 clear hR hk hg hP
 refine zn (hK10 _ _ ?_)
 refine wp_block ?_
 refine wp_for (x.ns.length) (fun k a W => a.tmps.size = 44 ∧ a.defers = [] ∧ Keeps All w W ∧ sl a 1 = (.pointer (some ⟨b1_2, 0, none⟩)) ∧ sl a 3 = (.int .i64 (((k + 1 : Nat) : Int))) ∧ Own W b1_2 [(.int .u8 (x.k)), (.int .i64 (x.n)), (.string (x.t)), (.slice cn0a (x.ns.length) cn0c), (.slice ci0a (x.xs.length) ci0c)] 33 ∧ Rd W (SA w S [b1_2]) (strsD (x.ns)) (.slice cn0a (x.ns.length) cn0c) ∧ Rd W (SA w S [b1_2]) (valsD (x.xs)) (.slice ci0a (x.xs.length) ci0c)) ⟨y11, zz11, kw, e1, (e3.trans (congrArg (Value.int .i64) (rfl))), own_b1_2, D_cn0, D_ci0⟩ ?_
 clear kw e1 e3 own_b1_2 D_cn0 D_ci0
 rintro k a12 W12 hkk ⟨y12, zz12, kw, e1, e3, own_b1_2, D_cn0, D_ci0⟩
 refine zq fun K13 hK13 => ?_
 refine zq fun K14 hK14 => ?_
 refine rg mixed y12 zz12 ?_
 refine .mb rfl e3 ?_
 refine .i (fo 3 (hbs rfl e1) Try.underlying33 rfl sz23 rfl) ?_
 refine .i (lo1 (hlc rfl) own_b1_2 trivial agg23 sz23 rfl) ?_
 refine .i (sp_lenSs Try.underlying23 ((hlc rfl).dat D_cn0 sub_all)) ?_
 refine .i (sp_lss (hlc rfl) (hlc rfl)) ?_
 refine .dn fun a15 g W15 y15 zz15 hk hg hV hR hP => ?_
 obtain ⟨e22, -, -, -, -, -⟩ := hV
 replace e1 := ft hR e1
 replace e3 := ft hR e3
 replace D_cn0 := D_cn0.ext hk
 replace D_ci0 := D_ci0.ext hk
 replace e22 := e22.q
 replace own_b1_2 := own_b1_2.ext hk
 replace kw := kw.x hk
 clear hR hk hg hP
 refine zn (hK14 _ _ ?_)
 refine zc e22 (fun hc => ?_) (fun hc => ?_)
 ·
  have hlt : k + 1 < x.ns.length := by have := of_decide_eq_true hc; omega
  refine wp_skip (hK13 _ _ ?_)
  refine zq fun K16 hK16 => ?_
  refine wp_block ?_
  refine zq fun K17 hK17 => ?_
  refine rg mixed y15 zz15 ?_
  refine .i (fo 3 (hbs rfl e1) Try.underlying33 rfl sz23 rfl) ?_
  refine .i (lo1 (hlc rfl) own_b1_2 trivial agg23 sz23 rfl) ?_
  refine .mb rfl e3 ?_
  refine .i (sp_sub (hlc rfl) Has.cst (i64_in (by omega))) ?_
  refine .rf (sp_indexS (i := k) ((hlc rfl).dat D_cn0 sub_all) (hlc rfl) Try.underlying23 sz9 (by omega) (by omega)) ?_
  refine .i (sp_loadStr (hlc rfl) agg9 sz9) ?_
  refine .i (fo 3 (hbs rfl e1) Try.underlying33 rfl sz23 rfl) ?_
  refine .i (lo1 (hlc rfl) own_b1_2 trivial agg23 sz23 rfl) ?_
  refine .mb rfl e3 ?_
  refine .rf (sp_indexS (i := (k + 1)) ((hlc rfl).dat D_cn0 sub_all) (hlc rfl) Try.underlying23 sz9 rfl hlt) ?_
  refine .i (sp_loadStr (hlc rfl) agg9 sz9) ?_
  refine .i (sp_sGeq (hlc rfl) (hlc rfl)) ?_
  refine .dn fun a18 g W18 y18 zz18 hk hg hV hR hP => ?_
  obtain ⟨e36, -, -, -, -, -, -, -, -, -, -, -, -⟩ := hV
  replace e1 := ft hR e1
  replace e3 := ft hR e3
  replace D_cn0 := D_cn0.ext hk
  replace D_ci0 := D_ci0.ext hk
  replace e36 := e36.q
  replace own_b1_2 := own_b1_2.ext hk
  replace kw := kw.x hk
  clear hR hk hg hP
  refine zn (hK17 _ _ ?_)
  refine zc e36 (fun hc => ?_) (fun hc => ?_)
  ·
   exfalso
   have h1 := (asc_iff x.ns).1 hk5.2.2 k hlt
   simp [h1] at hc
  refine wp_skip (hK16 _ _ ?_)
  refine rg mixed y18 zz18 ?_
  refine .mb rfl e3 ?_
  refine .i (sp_add (hlc rfl) Has.cst (i64_in (by omega))) ?_
  refine .al rfl ?_
  refine .dn fun a19 g W19 y19 zz19 hk hg hV hR hP => ?_
  obtain ⟨e3, -, -, -⟩ := hV
  replace e1 := ft hR e1
  replace D_cn0 := D_cn0.ext hk
  replace D_ci0 := D_ci0.ext hk
  replace e3 := e3.q
  replace own_b1_2 := own_b1_2.ext hk
  replace kw := kw.x hk
  clear hR hk hg hP
  exact tail_nil ⟨by omega, y19, zz19, kw, e1, (e3.trans (congrArg (Value.int .i64) (by omega))), own_b1_2, D_cn0, D_ci0⟩
 refine wp_exit (hK9 _ _ ?_)
 refine zq fun K20 hK20 => ?_
 refine rg mixed y15 zz15 ?_
 refine .i (v := (.agg #[(.int .u8 (x.k)), (.int .i64 (x.n)), (.string (x.t)), (.slice cn0a (x.ns.length) cn0c), (.slice ci0a (x.xs.length) ci0c)])) (loA (hbs rfl e1) own_b1_2 trivial agg33 sz33 rfl rfl) ?_
 refine .da (X := Fr W15) (e := V.d (x)) (sp_call1 (φ1 := IsD (SA w S [b1_2]) (V.d (x))) ent79 ((hlc rfl).dat (rdV_in (x := x) ht0 D_cn0 D_ci0 : Rd W15 (SA w S [b1_2]) (V.d (x)) _) sub_all) (fun g u1 W hk hgk h1 => (Copy_ok (x) (by first | omega | exact Nat.le_of_ble_eq_true (by kernel_rfl)) W _ _ (fun b o h => sa_cln hS b o h.1) h1).mono (ret_fr hk hgk))) ?_
 refine .dn fun a21 g W21 y21 zz21 hk hg hV hR hP => ?_
 obtain ⟨e40, -, -⟩ := hV
 replace D_cn0 := D_cn0.ext hk
 replace D_ci0 := D_ci0.ext hk
 obtain ⟨v40_21, ev⟩ : ∃ v, sl a21 40 = v := ⟨_, rfl⟩
 rw [ev] at e40
 have D_v40_21 : Rd W21 (SF w [b1_2]) (V.d (x)) v40_21 := fr_end (M := [b1_2]) e40 kw [] in_nil (in_cons own_b1_2.lt in_nil)
 replace e40 := ev; clear ev
 obtain ⟨cn40_21a, cn40_21c, ci40_21a, ci40_21c, ev, ht_v40_21, D_cn40_21, D_ci40_21⟩ := rdV_out D_v40_21
 subst ev; clear D_v40_21
 replace own_b1_2 := own_b1_2.ext hk
 replace kw := kw.x hk
 clear hR hk hg hP
 refine tail_reg 1 All y21 zz21 st_tr trivial rfl ?_
 refine .mkMap ?_
 refine .dn fun a22 g W22 y22 zz22 hk hg hV hR hP => ?_
 refine tail_nil ?_
 show runTail _ _ _ _ _ _
 obtain ⟨⟨b41_22, e41, hb41, own_b41_22⟩, -⟩ := hV
 have lo_b41_22 : w.heap.size ≤ b41_22 := Nat.le_trans kw.size (hg.lo _ _ hb41)
 have ne_b1_2_b41_22 : b1_2 ≠ b41_22 := Nat.ne_of_lt (Nat.lt_of_lt_of_le own_b1_2.lt (hg.lo _ _ hb41))
 have own_b41_22 : OwnM W22 b41_22 ([]) := own_b41_22
 replace e40 := ft hR e40
 replace D_cn40_21 := sf_more D_cn40_21 hk [b41_22] (in_cons (hg.lo _ _ hb41) in_nil)
 replace D_ci40_21 := sf_more D_ci40_21 hk [b41_22] (in_cons (hg.lo _ _ hb41) in_nil)
 replace own_b1_2 := own_b1_2.ext hk
 replace kw := kw.x hk
 clear hR hk hg hP hb41
 refine tail_reg 2 All y22 zz22 st_tr trivial rfl ?_
 refine .i (v := (.agg #[(.int .u8 (x.k)), (.int .i64 (x.n)), (.string (x.t)), (.slice cn40_21a (x.ns.length) cn40_21c), (.slice ci40_21a (x.xs.length) ci40_21c), (.map (some b41_22)), (.int .i64 (0))])) (sp_build (vs := [(0, (.agg #[(.int .u8 (x.k)), (.int .i64 (x.n)), (.string (x.t)), (.slice cn40_21a (x.ns.length) cn40_21c), (.slice ci40_21a (x.xs.length) ci40_21c)])), (1, (.map (some b41_22)))]) Try.underlying74 z74 (pl74 Try.underlying74) ⟨rfl, (hbs rfl e40), rfl, (hbs rfl e41), trivial⟩ (by kernel_rfl)) ?_
 refine .boxOp (v := (.agg #[(.int .u8 (x.k)), (.int .i64 (x.n)), (.string (x.t)), (.slice cn40_21a (x.ns.length) cn40_21c), (.slice ci40_21a (x.xs.length) ci40_21c), (.map (some b41_22)), (.int .i64 (0))])) (hlc rfl) ?_
 refine .dn fun a23 g W23 y23 zz23 hk hg hV hR hP => ?_
 refine tail_nil ?_
 show runTail _ _ _ _ _ _
 obtain ⟨⟨b43_23, e43, hb43, own_b43_23⟩, -, -⟩ := hV
 have lo_b43_23 : w.heap.size ≤ b43_23 := Nat.le_trans kw.size (hg.lo _ _ hb43)
 have ne_b1_2_b43_23 : b1_2 ≠ b43_23 := Nat.ne_of_lt (Nat.lt_of_lt_of_le own_b1_2.lt (hg.lo _ _ hb43))
 have ne_b41_22_b43_23 : b41_22 ≠ b43_23 := Nat.ne_of_lt (Nat.lt_of_lt_of_le own_b41_22.lt (hg.lo _ _ hb43))
 have own_b43_23 : Own W23 b43_23 [(.int .u8 (x.k)), (.int .i64 (x.n)), (.string (x.t)), (.slice cn40_21a (x.ns.length) cn40_21c), (.slice ci40_21a (x.xs.length) ci40_21c), (.map (some b41_22)), (.int .i64 (0))] 74 := own_b43_23
 replace D_cn40_21 := sf_more D_cn40_21 hk [b43_23] (in_cons (hg.lo _ _ hb43) in_nil)
 replace D_ci40_21 := sf_more D_ci40_21 hk [b43_23] (in_cons (hg.lo _ _ hb43) in_nil)
 replace own_b1_2 := own_b1_2.ext hk
 replace own_b41_22 := own_b41_22.ext hk
 replace kw := kw.x hk
 clear hR hk hg hP hb43
 refine tail_assign (v := (.pointer (some ⟨b43_23, 0, none⟩))) e43 (by rw [y23]; exact Nat.le_of_ble_eq_true rfl) (fun a24 y24 zz24 e2 hr => ?_)
 replace y24 := y24.trans y23; replace zz24 := zz24.trans zz23
 replace e43 := (hr 43 (by decide)).trans e43
 clear hr
 refine zn (hK20 _ _ ?_)
 refine wp_ret ?_
 refine ret1 rfl zz24 e2 ⟨_, rfl, kw, ?_⟩
 exact ⟨b43_23, b41_22, _, _, rfl, lo_b43_23, lo_b41_22, ne_b41_22_b43_23.symm, own_b43_23, own_b41_22, sf_pkf (by simp) D_cn40_21, sf_pkf (by simp) D_ci40_21, ht_v40_21⟩
set_option maxRecDepth 100000 in
theorem OfD_ok (x : V) (hof : ofE x ≠ 0) (w : World) (S : BSet) (v : Value) (hv : Rd w S x.d v) : Calls Try.prog 21 #[v] w (Ret w fun u W => PkD w W 74 (ofE x) u) := by
 have hmn : x.ns.length ≤ maxLen := by obtain ⟨_, _, _, _, _, _, h, _⟩ := rdV_out hv; exact rd_lenS h
 simp only [maxLen] at hmn
 obtain ⟨cn0a, cn0c, ci0a, ci0c, ev, ht0, D_cn0, D_ci0⟩ := rdV_out (rd_arg hv)
 subst ev
 refine enter Try.func21 rfl Try.ntmps21 (lbr rfl) fun a0 y0 zz0 harg => ?_
 have e0 : sl a0 0 = (.agg #[(.int .u8 (x.k)), (.int .i64 (x.n)), (.string (x.t)), (.slice cn0a (x.ns.length) cn0c), (.slice ci0a (x.xs.length) ci0c)]) := harg 0 (lbr rfl)
 have kw := Keeps.refl All w
 clear harg
 refine zq fun K1 hK1 => ?_
 refine rg mixed y0 zz0 ?_
 refine .boxOp (v := (.agg #[(.int .u8 (x.k)), (.int .i64 (x.n)), (.string (x.t)), (.slice cn0a (x.ns.length) cn0c), (.slice ci0a (x.xs.length) ci0c)])) (hbs rfl e0) ?_
 refine .ac ?_
 refine .dn fun a2 g W2 y2 zz2 hk hg hV hR hP => ?_
 obtain ⟨-, ⟨b1_2, e1, hb1, own_b1_2⟩, -⟩ := hV
 have lo_b1_2 : w.heap.size ≤ b1_2 := Nat.le_trans kw.size (hg.lo _ _ hb1)
 have own_b1_2 : Own W2 b1_2 [(.int .u8 (x.k)), (.int .i64 (x.n)), (.string (x.t)), (.slice cn0a (x.ns.length) cn0c), (.slice ci0a (x.xs.length) ci0c)] 33 := own_b1_2
 replace D_cn0 := sa_more D_cn0 hk [b1_2] (in_cons (hg.lo _ _ hb1) in_nil)
 replace D_ci0 := sa_more D_ci0 hk [b1_2] (in_cons (hg.lo _ _ hb1) in_nil)
 replace kw := kw.x hk
 clear hR hk hg hP hb1
 refine zn (hK1 _ _ ?_)
 refine zq fun K3 hK3 => ?_
 refine zq fun K4 hK4 => ?_
 refine rg mixed y2 zz2 ?_
 refine .i (fo 0 (hbs rfl e1) Try.underlying33 rfl sz5 rfl) ?_
 refine .i (lo1 (hlc rfl) own_b1_2 trivial agg5 sz5 rfl) ?_
 refine .i (sp_neq (hlc rfl) Has.cst) ?_
 refine .dn fun a5 g W5 y5 zz5 hk hg hV hR hP => ?_
 obtain ⟨e6, -, -, -⟩ := hV
 replace e1 := ft hR e1
 replace D_cn0 := D_cn0.ext hk
 replace D_ci0 := D_ci0.ext hk
 replace e6 := e6.q
 replace own_b1_2 := own_b1_2.ext hk
 replace kw := kw.x hk
 clear hR hk hg hP
 refine zn (hK4 _ _ ?_)
 refine zc e6 (fun hc => ?_) (fun hc => ?_)
 ·
  have hf : ofE x = 10 := by rw [ofE, if_pos (by simp at hc; omega)]
  refine zq fun K6 hK6 => ?_
  refine rg mixed y5 zz5 ?_
  refine .i (v := (.agg #[(.int .u8 (0)), (.int .i64 (0)), (.string (⟨#[]⟩)), (.slice none 0 0), (.slice none 0 0), (.map none), (.int .i64 (10))])) (sp_build (vs := [(2, (.int .i64 (10)))]) Try.underlying74 z74 (pl74 Try.underlying74) ⟨rfl, Has.cst, trivial⟩ rfl) ?_
  refine .boxOp (v := (.agg #[(.int .u8 (0)), (.int .i64 (0)), (.string (⟨#[]⟩)), (.slice none 0 0), (.slice none 0 0), (.map none), (.int .i64 (10))])) (hlc rfl) ?_
  refine .dn fun a7 g W7 y7 zz7 hk hg hV hR hP => ?_
  obtain ⟨⟨b8_7, e8, hb8, own_b8_7⟩, -, -⟩ := hV
  have lo_b8_7 : w.heap.size ≤ b8_7 := Nat.le_trans kw.size (hg.lo _ _ hb8)
  have ne_b1_2_b8_7 : b1_2 ≠ b8_7 := Nat.ne_of_lt (Nat.lt_of_lt_of_le own_b1_2.lt (hg.lo _ _ hb8))
  have own_b8_7 : Own W7 b8_7 [(.int .u8 (0)), (.int .i64 (0)), (.string (⟨#[]⟩)), (.slice none 0 0), (.slice none 0 0), (.map none), (.int .i64 (10))] 74 := own_b8_7
  replace D_cn0 := sa_more D_cn0 hk [b8_7] (in_cons (hg.lo _ _ hb8) in_nil)
  replace D_ci0 := sa_more D_ci0 hk [b8_7] (in_cons (hg.lo _ _ hb8) in_nil)
  replace own_b1_2 := own_b1_2.ext hk
  replace kw := kw.x hk
  clear hR hk hg hP hb8
  refine tail_assign (v := (.pointer (some ⟨b8_7, 0, none⟩))) e8 (by rw [y7]; exact Nat.le_of_ble_eq_true rfl) (fun a8 y8 zz8 e2 hr => ?_)
  replace y8 := y8.trans y7; replace zz8 := zz8.trans zz7
  replace e8 := (hr 8 (by decide)).trans e8
  clear hr
  refine zn (hK6 _ _ ?_)
  refine wp_ret ?_
  refine ret1 rfl zz8 e2 ⟨_, rfl, kw, ?_⟩
  rw [hf]
  exact ⟨b8_7, rfl, lo_b8_7, own_b8_7⟩
 have hk : ¬ x.k ≠ 5 := by simp at hc; omega
 refine wp_skip (hK3 _ _ ?_)
 refine zq fun K9 hK9 => ?_
 refine zq fun K10 hK10 => ?_
 refine rg mixed y5 zz5 ?_
 refine .i (fo 3 (hbs rfl e1) Try.underlying33 rfl sz23 rfl) ?_
 refine .i (lo1 (hlc rfl) own_b1_2 trivial agg23 sz23 rfl) ?_
 refine .i (sp_lenSs Try.underlying23 ((hlc rfl).dat D_cn0 sub_all)) ?_
 refine .i (fo 4 (hbs rfl e1) Try.underlying33 rfl sz31 rfl) ?_
 refine .i (lo1 (hlc rfl) own_b1_2 trivial agg31 sz31 rfl) ?_
 refine .i (sp_lenVs Try.underlying31 ((hlc rfl).dat D_ci0 sub_all)) ?_
 refine .i (sp_neq (hlc rfl) (hlc rfl)) ?_
 refine .dn fun a11 g W11 y11 zz11 hk hg hV hR hP => ?_
 obtain ⟨e15, -, -, -, -, -, -, -⟩ := hV
 replace e1 := ft hR e1
 replace D_cn0 := D_cn0.ext hk
 replace D_ci0 := D_ci0.ext hk
 replace e15 := e15.q
 replace own_b1_2 := own_b1_2.ext hk
 replace kw := kw.x hk
 clear hR hk hg hP
 refine zn (hK10 _ _ ?_)
 refine zc e15 (fun hc => ?_) (fun hc => ?_)
 ·
  have hf : ofE x = 3 := by rw [ofE, if_neg hk, if_pos (.inl (by simp at hc; omega))]
  refine zq fun K12 hK12 => ?_
  refine rg mixed y11 zz11 ?_
  refine .i (v := (.agg #[(.int .u8 (0)), (.int .i64 (0)), (.string (⟨#[]⟩)), (.slice none 0 0), (.slice none 0 0), (.map none), (.int .i64 (3))])) (sp_build (vs := [(2, (.int .i64 (3)))]) Try.underlying74 z74 (pl74 Try.underlying74) ⟨rfl, Has.cst, trivial⟩ rfl) ?_
  refine .boxOp (v := (.agg #[(.int .u8 (0)), (.int .i64 (0)), (.string (⟨#[]⟩)), (.slice none 0 0), (.slice none 0 0), (.map none), (.int .i64 (3))])) (hlc rfl) ?_
  refine .dn fun a13 g W13 y13 zz13 hk hg hV hR hP => ?_
  obtain ⟨⟨b17_13, e17, hb17, own_b17_13⟩, -, -⟩ := hV
  have lo_b17_13 : w.heap.size ≤ b17_13 := Nat.le_trans kw.size (hg.lo _ _ hb17)
  have ne_b1_2_b17_13 : b1_2 ≠ b17_13 := Nat.ne_of_lt (Nat.lt_of_lt_of_le own_b1_2.lt (hg.lo _ _ hb17))
  have own_b17_13 : Own W13 b17_13 [(.int .u8 (0)), (.int .i64 (0)), (.string (⟨#[]⟩)), (.slice none 0 0), (.slice none 0 0), (.map none), (.int .i64 (3))] 74 := own_b17_13
  replace D_cn0 := sa_more D_cn0 hk [b17_13] (in_cons (hg.lo _ _ hb17) in_nil)
  replace D_ci0 := sa_more D_ci0 hk [b17_13] (in_cons (hg.lo _ _ hb17) in_nil)
  replace own_b1_2 := own_b1_2.ext hk
  replace kw := kw.x hk
  clear hR hk hg hP hb17
  refine tail_assign (v := (.pointer (some ⟨b17_13, 0, none⟩))) e17 (by rw [y13]; exact Nat.le_of_ble_eq_true rfl) (fun a14 y14 zz14 e2 hr => ?_)
  replace y14 := y14.trans y13; replace zz14 := zz14.trans zz13
  replace e17 := (hr 17 (by decide)).trans e17
  clear hr
  refine zn (hK12 _ _ ?_)
  refine wp_ret ?_
  refine ret1 rfl zz14 e2 ⟨_, rfl, kw, ?_⟩
  rw [hf]
  exact ⟨b17_13, rfl, lo_b17_13, own_b17_13⟩
 have hl : x.ns.length = x.xs.length := by simp at hc; omega
 refine wp_skip (hK9 _ _ ?_)
 refine zq fun K15 hK15 => ?_
 refine zq fun K16 hK16 => ?_
 refine rg mixed y11 zz11 ?_
 refine .ac ?_
 refine .dn fun a17 g W17 y17 zz17 hk hg hV hR hP => ?_
 obtain ⟨e3, -⟩ := hV
 replace e1 := ft hR e1
 replace D_cn0 := D_cn0.ext hk
 replace D_ci0 := D_ci0.ext hk
 replace e3 := e3.q
 replace own_b1_2 := own_b1_2.ext hk
 replace kw := kw.x hk
 clear hR hk hg hP
 refine zn (hK16 _ _ ?_)
 refine wp_block ?_
 refine wp_for (x.ns.length) (fun k a W => a.tmps.size = 44 ∧ a.defers = [] ∧ Keeps All w W ∧ sl a 1 = (.pointer (some ⟨b1_2, 0, none⟩)) ∧ sl a 3 = (.int .i64 (((k + 1 : Nat) : Int))) ∧ Own W b1_2 [(.int .u8 (x.k)), (.int .i64 (x.n)), (.string (x.t)), (.slice cn0a (x.ns.length) cn0c), (.slice ci0a (x.xs.length) ci0c)] 33 ∧ Rd W (SA w S [b1_2]) (strsD (x.ns)) (.slice cn0a (x.ns.length) cn0c) ∧ Rd W (SA w S [b1_2]) (valsD (x.xs)) (.slice ci0a (x.xs.length) ci0c) ∧ (∀ i (h : i + 1 < x.ns.length), i < k → sLt x.ns[i] x.ns[i + 1] = true)) ⟨y17, zz17, kw, e1, (e3.trans (congrArg (Value.int .i64) (rfl))), own_b1_2, D_cn0, D_ci0, fun i h hi => absurd hi (by omega)⟩ ?_
 clear kw e1 e3 own_b1_2 D_cn0 D_ci0
 rintro k a18 W18 hkk ⟨y18, zz18, kw, e1, e3, own_b1_2, D_cn0, D_ci0, hinv⟩
 refine zq fun K19 hK19 => ?_
 refine zq fun K20 hK20 => ?_
 refine rg mixed y18 zz18 ?_
 refine .mb rfl e3 ?_
 refine .i (fo 3 (hbs rfl e1) Try.underlying33 rfl sz23 rfl) ?_
 refine .i (lo1 (hlc rfl) own_b1_2 trivial agg23 sz23 rfl) ?_
 refine .i (sp_lenSs Try.underlying23 ((hlc rfl).dat D_cn0 sub_all)) ?_
 refine .i (sp_lss (hlc rfl) (hlc rfl)) ?_
 refine .dn fun a21 g W21 y21 zz21 hk hg hV hR hP => ?_
 obtain ⟨e22, -, -, -, -, -⟩ := hV
 replace e1 := ft hR e1
 replace e3 := ft hR e3
 replace D_cn0 := D_cn0.ext hk
 replace D_ci0 := D_ci0.ext hk
 replace e22 := e22.q
 replace own_b1_2 := own_b1_2.ext hk
 replace kw := kw.x hk
 clear hR hk hg hP
 refine zn (hK20 _ _ ?_)
 refine zc e22 (fun hc => ?_) (fun hc => ?_)
 ·
  have hlt : k + 1 < x.ns.length := by have := of_decide_eq_true hc; omega
  refine wp_skip (hK19 _ _ ?_)
  refine zq fun K22 hK22 => ?_
  refine wp_block ?_
  refine zq fun K23 hK23 => ?_
  refine rg mixed y21 zz21 ?_
  refine .i (fo 3 (hbs rfl e1) Try.underlying33 rfl sz23 rfl) ?_
  refine .i (lo1 (hlc rfl) own_b1_2 trivial agg23 sz23 rfl) ?_
  refine .mb rfl e3 ?_
  refine .i (sp_sub (hlc rfl) Has.cst (i64_in (by omega))) ?_
  refine .rf (sp_indexS (i := k) ((hlc rfl).dat D_cn0 sub_all) (hlc rfl) Try.underlying23 sz9 (by omega) (by omega)) ?_
  refine .i (sp_loadStr (hlc rfl) agg9 sz9) ?_
  refine .i (fo 3 (hbs rfl e1) Try.underlying33 rfl sz23 rfl) ?_
  refine .i (lo1 (hlc rfl) own_b1_2 trivial agg23 sz23 rfl) ?_
  refine .mb rfl e3 ?_
  refine .rf (sp_indexS (i := (k + 1)) ((hlc rfl).dat D_cn0 sub_all) (hlc rfl) Try.underlying23 sz9 rfl hlt) ?_
  refine .i (sp_loadStr (hlc rfl) agg9 sz9) ?_
  refine .i (sp_sGeq (hlc rfl) (hlc rfl)) ?_
  refine .dn fun a24 g W24 y24 zz24 hk hg hV hR hP => ?_
  obtain ⟨e36, -, -, -, -, -, -, -, -, -, -, -, -⟩ := hV
  replace e1 := ft hR e1
  replace e3 := ft hR e3
  replace D_cn0 := D_cn0.ext hk
  replace D_ci0 := D_ci0.ext hk
  replace e36 := e36.q
  replace own_b1_2 := own_b1_2.ext hk
  replace kw := kw.x hk
  clear hR hk hg hP
  refine zn (hK23 _ _ ?_)
  refine zc e36 (fun hc => ?_) (fun hc => ?_)
  ·
   have hf : ofE x = 3 := by rw [ofE, if_neg hk, if_pos (.inr (asc_false hlt (by simpa using hc)))]
   refine zq fun K25 hK25 => ?_
   refine rg mixed y24 zz24 ?_
   refine .i (v := (.agg #[(.int .u8 (0)), (.int .i64 (0)), (.string (⟨#[]⟩)), (.slice none 0 0), (.slice none 0 0), (.map none), (.int .i64 (3))])) (sp_build (vs := [(2, (.int .i64 (3)))]) Try.underlying74 z74 (pl74 Try.underlying74) ⟨rfl, Has.cst, trivial⟩ rfl) ?_
   refine .boxOp (v := (.agg #[(.int .u8 (0)), (.int .i64 (0)), (.string (⟨#[]⟩)), (.slice none 0 0), (.slice none 0 0), (.map none), (.int .i64 (3))])) (hlc rfl) ?_
   refine .dn fun a26 g W26 y26 zz26 hk hg hV hR hP => ?_
   obtain ⟨⟨b38_26, e38, hb38, own_b38_26⟩, -, -⟩ := hV
   have lo_b38_26 : w.heap.size ≤ b38_26 := Nat.le_trans kw.size (hg.lo _ _ hb38)
   have ne_b1_2_b38_26 : b1_2 ≠ b38_26 := Nat.ne_of_lt (Nat.lt_of_lt_of_le own_b1_2.lt (hg.lo _ _ hb38))
   have own_b38_26 : Own W26 b38_26 [(.int .u8 (0)), (.int .i64 (0)), (.string (⟨#[]⟩)), (.slice none 0 0), (.slice none 0 0), (.map none), (.int .i64 (3))] 74 := own_b38_26
   replace D_cn0 := sa_more D_cn0 hk [b38_26] (in_cons (hg.lo _ _ hb38) in_nil)
   replace D_ci0 := sa_more D_ci0 hk [b38_26] (in_cons (hg.lo _ _ hb38) in_nil)
   replace own_b1_2 := own_b1_2.ext hk
   replace kw := kw.x hk
   clear hR hk hg hP hb38
   refine tail_assign (v := (.pointer (some ⟨b38_26, 0, none⟩))) e38 (by rw [y26]; exact Nat.le_of_ble_eq_true rfl) (fun a27 y27 zz27 e2 hr => ?_)
   replace y27 := y27.trans y26; replace zz27 := zz27.trans zz26
   replace e38 := (hr 38 (by decide)).trans e38
   clear hr
   refine zn (hK25 _ _ ?_)
   refine wp_ret ?_
   refine ret1 rfl zz27 e2 ⟨_, rfl, kw, ?_⟩
   rw [hf]
   exact ⟨b38_26, rfl, lo_b38_26, own_b38_26⟩
  have hk1 : sLt x.ns[k] x.ns[k + 1] = true := by simpa using hc
  refine wp_skip (hK22 _ _ ?_)
  refine rg mixed y24 zz24 ?_
  refine .mb rfl e3 ?_
  refine .i (sp_add (hlc rfl) Has.cst (i64_in (by omega))) ?_
  refine .al rfl ?_
  refine .dn fun a28 g W28 y28 zz28 hk hg hV hR hP => ?_
  obtain ⟨e3, -, -, -⟩ := hV
  replace e1 := ft hR e1
  replace D_cn0 := D_cn0.ext hk
  replace D_ci0 := D_ci0.ext hk
  replace e3 := e3.q
  replace own_b1_2 := own_b1_2.ext hk
  replace kw := kw.x hk
  clear hR hk hg hP
  exact tail_nil ⟨by omega, y28, zz28, kw, e1, (e3.trans (congrArg (Value.int .i64) (by omega))), own_b1_2, D_cn0, D_ci0, fun i h hi => by rcases Nat.lt_succ_iff_lt_or_eq.1 hi with h1 | h1; exact hinv i h h1; subst h1; exact hk1⟩
 exfalso
 have hge := of_decide_eq_false hc
 have ha : asc x.ns = true := (asc_iff x.ns).2 fun i hi => hinv i hi (by omega)
 rw [ofE, if_neg hk, if_neg (by rintro (h | h); exact h hl; rw [ha] at h; cases h)] at hof
 exact hof rfl
end Go.Proofs.Ytnobijngkpflcaa
namespace Go.Proofs.Ytnobijngkpflcaa
open Go.Eng
set_option maxRecDepth 100000 in
theorem takeSD_ok (k : Nat) (n : Int) (t : ByteArray) (cn ci mv : Value) (e : Int) (hE : errK k e ≠ 0) (name : ByteArray) (fv : Value) (w : World) (bo : Nat) (own_bo : Own w bo [.int .u8 k, .int .i64 n, .string t, cn, ci, mv, .int .i64 e] 74) : Calls Try.prog 98 #[.pointer (some ⟨bo, 0, none⟩), .string name, fv] w (Ret w fun u _ => u = .slice none 0 0) := by
 refine enter Try.func98 rfl Try.ntmps98 (lbr rfl) fun a0 y0 zz0 harg => ?_
 have e0 : sl a0 0 = (.pointer (some ⟨bo, 0, none⟩)) := harg 0 (lbr rfl)
 have e1 : sl a0 1 = (.string (name)) := harg 1 (lbr rfl)
 have e2 : sl a0 2 = fv := harg 2 (lbr rfl)
 have kw := Keeps.refl All w
 clear harg
 refine zq fun K1 hK1 => ?_
 refine rg mixed y0 zz0 ?_
 refine .ac ?_
 refine .dn fun a2 g W2 y2 zz2 hk hg hV hR hP => ?_
 obtain ⟨-, -⟩ := hV
 replace e0 := ft hR e0
 replace e1 := ft hR e1
 replace e2 := ft hR e2
 replace own_bo := own_bo.ext hk
 replace kw := kw.x hk
 clear hR hk hg hP
 refine zn (hK1 _ _ ?_)
 refine zq fun K3 hK3 => ?_
 refine rg mixed y2 zz2 ?_
 refine .ac ?_
 refine .dn fun a4 g W4 y4 zz4 hk hg hV hR hP => ?_
 obtain ⟨e7, -⟩ := hV
 replace e0 := ft hR e0
 replace e1 := ft hR e1
 replace e2 := ft hR e2
 replace e7 := e7.q
 replace own_bo := own_bo.ext hk
 replace kw := kw.x hk
 clear hR hk hg hP
 refine zn (hK3 _ _ ?_)
 refine zq fun K5 hK5 => ?_
 refine zq fun K6 hK6 => ?_
 refine rg mixed y4 zz4 ?_
 refine .mb rfl e0 ?_
 refine .i (v := (.int .i64 (errK (k : Nat) e))) (sp_call1 (φ1 := Is (.pointer (some ⟨bo, 0, none⟩))) ent24 (hlc rfl) (fun g u1 W hk hgk h1 => by have h1 : u1 = _ := h1; subst u1; exact Err_ok _ _ _ _ _ _ _ W _ (own_bo.ext hk))) ?_
 refine .i (sp_neq (hlc rfl) Has.cst) ?_
 refine .dn fun a7 g W7 y7 zz7 hk hg hV hR hP => ?_
 obtain ⟨e14, -, -, -⟩ := hV
 replace e0 := ft hR e0
 replace e1 := ft hR e1
 replace e2 := ft hR e2
 replace e7 := ft hR e7
 replace e14 := e14.q
 replace own_bo := own_bo.ext hk
 replace kw := kw.x hk
 clear hR hk hg hP
 refine zn (hK6 _ _ ?_)
 refine zc e14 (fun hc => ?_) (fun hc => ?_)
 ·
  refine zq fun K8 hK8 => ?_
  refine rg mixed y7 zz7 ?_
  refine .mb rfl e7 ?_
  refine .al rfl ?_
  refine .dn fun a9 g W9 y9 zz9 hk hg hV hR hP => ?_
  obtain ⟨e6, -, -⟩ := hV
  replace e6 := e6.q
  replace own_bo := own_bo.ext hk
  replace kw := kw.x hk
  clear hR hk hg hP
  refine zn (hK8 _ _ ?_)
  refine wp_ret ?_
  refine ret1 rfl zz9 e6 ⟨_, rfl, kw, ?_⟩
  exact rfl
 exfalso
 exact hE (by simpa using hc)
set_option maxRecDepth 100000 in
theorem takeID_ok (k : Nat) (n : Int) (t : ByteArray) (cn ci mv : Value) (e : Int) (hE : errK k e ≠ 0) (name : ByteArray) (fv : Value) (w : World) (bo : Nat) (own_bo : Own w bo [.int .u8 k, .int .i64 n, .string t, cn, ci, mv, .int .i64 e] 74) : Calls Try.prog 104 #[.pointer (some ⟨bo, 0, none⟩), .string name, fv] w (Ret w fun u _ => u = .int .i64 0) := by
 refine enter Try.func104 rfl Try.ntmps104 (lbr rfl) fun a0 y0 zz0 harg => ?_
 have e0 : sl a0 0 = (.pointer (some ⟨bo, 0, none⟩)) := harg 0 (lbr rfl)
 have e1 : sl a0 1 = (.string (name)) := harg 1 (lbr rfl)
 have e2 : sl a0 2 = fv := harg 2 (lbr rfl)
 have kw := Keeps.refl All w
 clear harg
 refine zq fun K1 hK1 => ?_
 refine rg mixed y0 zz0 ?_
 refine .ac ?_
 refine .dn fun a2 g W2 y2 zz2 hk hg hV hR hP => ?_
 obtain ⟨-, -⟩ := hV
 replace e0 := ft hR e0
 replace e1 := ft hR e1
 replace e2 := ft hR e2
 replace own_bo := own_bo.ext hk
 replace kw := kw.x hk
 clear hR hk hg hP
 refine zn (hK1 _ _ ?_)
 refine zq fun K3 hK3 => ?_
 refine rg mixed y2 zz2 ?_
 refine .ac ?_
 refine .dn fun a4 g W4 y4 zz4 hk hg hV hR hP => ?_
 obtain ⟨e7, -⟩ := hV
 replace e0 := ft hR e0
 replace e1 := ft hR e1
 replace e2 := ft hR e2
 replace e7 := e7.q
 replace own_bo := own_bo.ext hk
 replace kw := kw.x hk
 clear hR hk hg hP
 refine zn (hK3 _ _ ?_)
 refine zq fun K5 hK5 => ?_
 refine zq fun K6 hK6 => ?_
 refine rg mixed y4 zz4 ?_
 refine .mb rfl e0 ?_
 refine .i (v := (.int .i64 (errK (k : Nat) e))) (sp_call1 (φ1 := Is (.pointer (some ⟨bo, 0, none⟩))) ent24 (hlc rfl) (fun g u1 W hk hgk h1 => by have h1 : u1 = _ := h1; subst u1; exact Err_ok _ _ _ _ _ _ _ W _ (own_bo.ext hk))) ?_
 refine .i (sp_neq (hlc rfl) Has.cst) ?_
 refine .dn fun a7 g W7 y7 zz7 hk hg hV hR hP => ?_
 obtain ⟨e14, -, -, -⟩ := hV
 replace e0 := ft hR e0
 replace e1 := ft hR e1
 replace e2 := ft hR e2
 replace e7 := ft hR e7
 replace e14 := e14.q
 replace own_bo := own_bo.ext hk
 replace kw := kw.x hk
 clear hR hk hg hP
 refine zn (hK6 _ _ ?_)
 refine zc e14 (fun hc => ?_) (fun hc => ?_)
 ·
  refine zq fun K8 hK8 => ?_
  refine rg mixed y7 zz7 ?_
  refine .mb rfl e7 ?_
  refine .al rfl ?_
  refine .dn fun a9 g W9 y9 zz9 hk hg hV hR hP => ?_
  obtain ⟨e6, -, -⟩ := hV
  replace e6 := e6.q
  replace own_bo := own_bo.ext hk
  replace kw := kw.x hk
  clear hR hk hg hP
  refine zn (hK8 _ _ ?_)
  refine wp_ret ?_
  refine ret1 rfl zz9 e6 ⟨_, rfl, kw, ?_⟩
  exact rfl
 exfalso
 exact hE (by simpa using hc)
set_option maxRecDepth 100000 in
theorem TextsD_ok (k : Nat) (n : Int) (t : ByteArray) (cn ci mv : Value) (e : Int) (hE : errK k e ≠ 0) (name : ByteArray) (most : Int) (w : World) (bo : Nat) (own_bo : Own w bo [.int .u8 k, .int .i64 n, .string t, cn, ci, mv, .int .i64 e] 74) : Calls Try.prog 41 #[.pointer (some ⟨bo, 0, none⟩), .string name, .int .i64 most] w (Ret w fun u _ => u = .slice none 0 0) := by
 refine enter Try.func41 rfl Try.ntmps41 (lbr rfl) fun a0 y0 zz0 harg => ?_
 have e0 : sl a0 0 = (.pointer (some ⟨bo, 0, none⟩)) := harg 0 (lbr rfl)
 have e1 : sl a0 1 = (.string (name)) := harg 1 (lbr rfl)
 have e2 : sl a0 2 = (.int .i64 (most)) := harg 2 (lbr rfl)
 have kw := Keeps.refl All w
 clear harg
 refine zq fun K1 hK1 => ?_
 refine rg mixed y0 zz0 ?_
 refine .boxOp (v := (.int .i64 (most))) (hbs rfl e2) ?_
 refine .ac ?_
 refine .dn fun a2 g W2 y2 zz2 hk hg hV hR hP => ?_
 obtain ⟨-, ⟨b5_2, e5, hb5, own_b5_2⟩, -⟩ := hV
 have lo_b5_2 : w.heap.size ≤ b5_2 := Nat.le_trans kw.size (hg.lo _ _ hb5)
 have ne_bo_b5_2 : bo ≠ b5_2 := Nat.ne_of_lt (Nat.lt_of_lt_of_le own_bo.lt (hg.lo _ _ hb5))
 have own_b5_2 : Own W2 b5_2 [(.int .i64 (most))] 3 := own_b5_2
 replace e0 := ft hR e0
 replace e1 := ft hR e1
 replace own_bo := own_bo.ext hk
 replace kw := kw.x hk
 clear hR hk hg hP hb5
 refine zn (hK1 _ _ ?_)
 refine zq fun K3 hK3 => ?_
 refine rg mixed y2 zz2 ?_
 refine .mb rfl e0 ?_
 refine .mb rfl e1 ?_
 refine .i (v := (.func (.func 99) #[] #[(.pointer (some ⟨b5_2, 0, none⟩))])) (sp_mkF1 (hbs rfl e5)) ?_
 refine .i (v := (.slice none 0 0)) (sp_call3 (φ1 := Is (.pointer (some ⟨bo, 0, none⟩))) (φ2 := Is (.string (name))) (φ3 := Is (.func (.func 99) #[] #[(.pointer (some ⟨b5_2, 0, none⟩))])) ent98 (hlc rfl) (hlc rfl) (hlc rfl) (fun g u1 u2 u3 W hk hgk h1 h2 h3 => by have h1 : u1 = _ := h1; subst u1; have h2 : u2 = _ := h2; subst u2; have h3 : u3 = _ := h3; subst u3; exact takeSD_ok _ _ _ _ _ _ _ hE _ _ W _ (own_bo.ext hk))) ?_
 refine .al rfl ?_
 refine .dn fun a4 g W4 y4 zz4 hk hg hV hR hP => ?_
 obtain ⟨e6, -, -, -, -, -⟩ := hV
 replace e6 := e6.q
 replace own_bo := own_bo.ext hk
 replace own_b5_2 := own_b5_2.ext hk
 replace kw := kw.x hk
 clear hR hk hg hP
 refine zn (hK3 _ _ ?_)
 refine wp_ret ?_
 refine ret1 rfl zz4 e6 ⟨_, rfl, kw, ?_⟩
 exact rfl
set_option maxRecDepth 100000 in
theorem NumD_ok (k : Nat) (n : Int) (t : ByteArray) (cn ci mv : Value) (e : Int) (hE : errK k e ≠ 0) (name : ByteArray) (lo hi : Int) (w : World) (bo : Nat) (own_bo : Own w bo [.int .u8 k, .int .i64 n, .string t, cn, ci, mv, .int .i64 e] 74) : Calls Try.prog 44 #[.pointer (some ⟨bo, 0, none⟩), .string name, .int .i64 lo, .int .i64 hi] w (Ret w fun u _ => u = .int .i64 0) := by
 refine enter Try.func44 rfl Try.ntmps44 (lbr rfl) fun a0 y0 zz0 harg => ?_
 have e0 : sl a0 0 = (.pointer (some ⟨bo, 0, none⟩)) := harg 0 (lbr rfl)
 have e1 : sl a0 1 = (.string (name)) := harg 1 (lbr rfl)
 have e2 : sl a0 2 = (.int .i64 (lo)) := harg 2 (lbr rfl)
 have e3 : sl a0 3 = (.int .i64 (hi)) := harg 3 (lbr rfl)
 have kw := Keeps.refl All w
 clear harg
 refine zq fun K1 hK1 => ?_
 refine rg mixed y0 zz0 ?_
 refine .boxOp (v := (.int .i64 (lo))) (hbs rfl e2) ?_
 refine .boxOp (v := (.int .i64 (hi))) (hbs rfl e3) ?_
 refine .ac ?_
 refine .dn fun a2 g W2 y2 zz2 hk hg hV hR hP => ?_
 obtain ⟨-, ⟨b7_2, e7, hb7, own_b7_2⟩, ⟨b6_2, e6, hb6, own_b6_2⟩, -⟩ := hV
 have lo_b7_2 : w.heap.size ≤ b7_2 := Nat.le_trans kw.size (hg.lo _ _ hb7)
 have ne_bo_b7_2 : bo ≠ b7_2 := Nat.ne_of_lt (Nat.lt_of_lt_of_le own_bo.lt (hg.lo _ _ hb7))
 have own_b7_2 : Own W2 b7_2 [(.int .i64 (hi))] 2 := own_b7_2
 have lo_b6_2 : w.heap.size ≤ b6_2 := Nat.le_trans kw.size (hg.lo _ _ hb6)
 have ne_bo_b6_2 : bo ≠ b6_2 := Nat.ne_of_lt (Nat.lt_of_lt_of_le own_bo.lt (hg.lo _ _ hb6))
 have own_b6_2 : Own W2 b6_2 [(.int .i64 (lo))] 2 := own_b6_2
 have ne_b7_2_b6_2 : b7_2 ≠ b6_2 := fun h => by have := hg.inj _ _ _ hb7 (h ▸ hb6); cases this
 replace e0 := ft hR e0
 replace e1 := ft hR e1
 replace own_bo := own_bo.ext hk
 replace kw := kw.x hk
 clear hR hk hg hP hb7 hb6
 refine zn (hK1 _ _ ?_)
 refine zq fun K3 hK3 => ?_
 refine rg mixed y2 zz2 ?_
 refine .mb rfl e0 ?_
 refine .mb rfl e1 ?_
 refine .i (v := (.func (.func 105) #[] #[(.pointer (some ⟨b6_2, 0, none⟩)), (.pointer (some ⟨b7_2, 0, none⟩))])) (sp_mkF2 (hbs rfl e6) (hbs rfl e7)) ?_
 refine .i (v := (.int .i64 (0))) (sp_call3 (φ1 := Is (.pointer (some ⟨bo, 0, none⟩))) (φ2 := Is (.string (name))) (φ3 := Is (.func (.func 105) #[] #[(.pointer (some ⟨b6_2, 0, none⟩)), (.pointer (some ⟨b7_2, 0, none⟩))])) ent104 (hlc rfl) (hlc rfl) (hlc rfl) (fun g u1 u2 u3 W hk hgk h1 h2 h3 => by have h1 : u1 = _ := h1; subst u1; have h2 : u2 = _ := h2; subst u2; have h3 : u3 = _ := h3; subst u3; exact takeID_ok _ _ _ _ _ _ _ hE _ _ W _ (own_bo.ext hk))) ?_
 refine .al rfl ?_
 refine .dn fun a4 g W4 y4 zz4 hk hg hV hR hP => ?_
 obtain ⟨e8, -, -, -, -, -⟩ := hV
 replace e8 := e8.q
 replace own_bo := own_bo.ext hk
 replace own_b7_2 := own_b7_2.ext hk
 replace own_b6_2 := own_b6_2.ext hk
 replace kw := kw.x hk
 clear hR hk hg hP
 refine zn (hK3 _ _ ?_)
 refine wp_ret ?_
 refine ret1 rfl zz4 e8 ⟨_, rfl, kw, ?_⟩
 exact rfl
set_option maxRecDepth 100000 in
theorem DoneD_ok (k : Nat) (n : Int) (t : ByteArray) (cn ci mv : Value) (e : Int) (hE : errK k e ≠ 0) (w : World) (bo : Nat) (own_bo : Own w bo [.int .u8 k, .int .i64 n, .string t, cn, ci, mv, .int .i64 e] 74) : Calls Try.prog 32 #[.pointer (some ⟨bo, 0, none⟩)] w (Ret w fun u _ => u = .int .i64 (errK k e)) := by
 refine enter Try.func32 rfl Try.ntmps32 (lbr rfl) fun a0 y0 zz0 harg => ?_
 have e0 : sl a0 0 = (.pointer (some ⟨bo, 0, none⟩)) := harg 0 (lbr rfl)
 have kw := Keeps.refl All w
 clear harg
 refine zq fun K1 hK1 => ?_
 refine rg mixed y0 zz0 ?_
 refine .ac ?_
 refine .dn fun a2 g W2 y2 zz2 hk hg hV hR hP => ?_
 obtain ⟨-, -⟩ := hV
 replace e0 := ft hR e0
 replace own_bo := own_bo.ext hk
 replace kw := kw.x hk
 clear hR hk hg hP
 refine zn (hK1 _ _ ?_)
 refine zq fun K3 hK3 => ?_
 refine zq fun K4 hK4 => ?_
 refine rg mixed y2 zz2 ?_
 refine .mb rfl e0 ?_
 refine .i (v := (.int .i64 (errK (k : Nat) e))) (sp_call1 (φ1 := Is (.pointer (some ⟨bo, 0, none⟩))) ent24 (hlc rfl) (fun g u1 W hk hgk h1 => by have h1 : u1 = _ := h1; subst u1; exact Err_ok _ _ _ _ _ _ _ W _ (own_bo.ext hk))) ?_
 refine .al rfl ?_
 refine .dn fun a5 g W5 y5 zz5 hk hg hV hR hP => ?_
 obtain ⟨e3, -, -, -⟩ := hV
 replace e0 := ft hR e0
 replace e3 := e3.q
 replace own_bo := own_bo.ext hk
 replace kw := kw.x hk
 clear hR hk hg hP
 refine zn (hK4 _ _ ?_)
 refine zq fun K6 hK6 => ?_
 refine rg mixed y5 zz5 ?_
 refine .mb rfl e3 ?_
 refine .i (sp_neq (hlc rfl) Has.cst) ?_
 refine .dn fun a7 g W7 y7 zz7 hk hg hV hR hP => ?_
 obtain ⟨e9, -, -⟩ := hV
 replace e0 := ft hR e0
 replace e3 := ft hR e3
 replace e9 := e9.q
 replace own_bo := own_bo.ext hk
 replace kw := kw.x hk
 clear hR hk hg hP
 refine zn (hK6 _ _ ?_)
 refine zc e9 (fun hc => ?_) (fun hc => ?_)
 ·
  refine zq fun K8 hK8 => ?_
  refine rg mixed y7 zz7 ?_
  refine .mb rfl e3 ?_
  refine .al rfl ?_
  refine .dn fun a9 g W9 y9 zz9 hk hg hV hR hP => ?_
  obtain ⟨e2, -, -⟩ := hV
  replace e2 := e2.q
  replace own_bo := own_bo.ext hk
  replace kw := kw.x hk
  clear hR hk hg hP
  refine zn (hK8 _ _ ?_)
  refine wp_ret ?_
  refine ret1 rfl zz9 e2 ⟨_, rfl, kw, ?_⟩
  exact rfl
 exfalso
 exact hE (by simpa using hc)
end Go.Proofs.Ytnobijngkpflcaa
namespace Go.Eng
theorem rd_tAt {W : World} {X : BSet} {xs : List V} {v : Value} {i : Nat} (h : Rd W X (valsD xs) v) (hi : i < xs.length) : xs[i].t.size ≤ maxLen := by
  obtain ⟨cs, h1, _⟩ := h
  simp only [valsD, RdC] at h1
  obtain ⟨a, cap, _, h2, h3, h4⟩ := h1
  rcases h4 with h4 | ⟨b, o, _, _, _, h5⟩
  · simp at h4; subst h4; simp at hi
  · obtain ⟨c, hc⟩ := rdl_at _ _ i (by simpa using hi) h5
    rw [List.getElem_map] at hc
    obtain ⟨_, _, _, _, _, h6, _⟩ := vcells hc
    exact h6
end Go.Eng
namespace Go.Eng
def obE (most : Int) (v : V) : Int := if v.k ≠ 5 then 10 else if most < v.xs.length then 5 else 0
def obV (most : Int) (v : V) : V := if obE most v = 0 then v else ⟨0, 0, ⟨#[]⟩, [], []⟩
def anyE (_ : V) : Int := 0
theorem obV_wt (m : Int) (v : V) : (obV m v).wt ≤ v.wt := by
  unfold obV
  split
  · exact Nat.le_refl _
  · have := wt_eq v
    have h : V.wt ⟨0, 0, ⟨#[]⟩, [], []⟩ = 1 := rfl
    rw [h]; omega
end Go.Eng
namespace Go.Proofs.Ytnobijngkpflcaa
open Go.Eng
set_option maxRecDepth 100000 in
theorem object1_ok (x : V) (most : Int) (w : World) (S : BSet) (v : Value) (bq : Nat) (hv : Rd w S x.d v) (own_bq : Own w bq [.int .i64 most] 3) : Calls Try.prog 111 #[v, .pointer (some ⟨bq, 0, none⟩)] w (Ret w fun r W => ∃ r1, r = .tuple #[r1, .int .i64 (obE most x)] ∧ Rd W (Ar w S) (V.d (obV most x)) r1) := by
 obtain ⟨cn0a, cn0c, ci0a, ci0c, ev, ht0, D_cn0, D_ci0⟩ := rdV_out (rd_arg hv)
 subst ev
 refine enter Try.func111 rfl Try.ntmps111 (lbr rfl) fun a0 y0 zz0 harg => ?_
 have e0 : sl a0 0 = (.agg #[(.int .u8 (x.k)), (.int .i64 (x.n)), (.string (x.t)), (.slice cn0a (x.ns.length) cn0c), (.slice ci0a (x.xs.length) ci0c)]) := harg 0 (lbr rfl)
 have e1 : sl a0 1 = (.pointer (some ⟨bq, 0, none⟩)) := harg 1 (lbr rfl)
 have kw := Keeps.refl All w
 clear harg
 refine zq fun K1 hK1 => ?_
 refine rg mixed y0 zz0 ?_
 refine .boxOp (v := (.agg #[(.int .u8 (x.k)), (.int .i64 (x.n)), (.string (x.t)), (.slice cn0a (x.ns.length) cn0c), (.slice ci0a (x.xs.length) ci0c)])) (hbs rfl e0) ?_
 refine .alloc z33 ?_
 refine .ac ?_
 refine .dn fun a2 g W2 y2 zz2 hk hg hV hR hP => ?_
 obtain ⟨-, ⟨b3_2, e3, hb3, own_b3_2⟩, ⟨b2_2, e2, hb2, own_b2_2⟩, -⟩ := hV
 have lo_b3_2 : w.heap.size ≤ b3_2 := Nat.le_trans kw.size (hg.lo _ _ hb3)
 have ne_bq_b3_2 : bq ≠ b3_2 := Nat.ne_of_lt (Nat.lt_of_lt_of_le own_bq.lt (hg.lo _ _ hb3))
 have own_b3_2 : Own W2 b3_2 z5C 33 := own_b3_2
 have lo_b2_2 : w.heap.size ≤ b2_2 := Nat.le_trans kw.size (hg.lo _ _ hb2)
 have ne_bq_b2_2 : bq ≠ b2_2 := Nat.ne_of_lt (Nat.lt_of_lt_of_le own_bq.lt (hg.lo _ _ hb2))
 have own_b2_2 : Own W2 b2_2 [(.int .u8 (x.k)), (.int .i64 (x.n)), (.string (x.t)), (.slice cn0a (x.ns.length) cn0c), (.slice ci0a (x.xs.length) ci0c)] 33 := own_b2_2
 have ne_b3_2_b2_2 : b3_2 ≠ b2_2 := fun h => by have := hg.inj _ _ _ hb3 (h ▸ hb2); cases this
 replace e1 := ft hR e1
 replace D_cn0 := sa_more D_cn0 hk [b3_2, b2_2] (in_cons (hg.lo _ _ hb3) (in_cons (hg.lo _ _ hb2) in_nil))
 replace D_ci0 := sa_more D_ci0 hk [b3_2, b2_2] (in_cons (hg.lo _ _ hb3) (in_cons (hg.lo _ _ hb2) in_nil))
 replace own_bq := own_bq.ext hk
 replace kw := kw.x hk
 clear hR hk hg hP hb3 hb2
 refine zn (hK1 _ _ ?_)
 refine zq fun K3 hK3 => ?_
 refine zq fun K4 hK4 => ?_
 refine rg mixed y2 zz2 ?_
 refine .i (fo 0 (hbs rfl e2) Try.underlying33 rfl sz5 rfl) ?_
 refine .i (lo1 (hlc rfl) own_b2_2 trivial agg5 sz5 rfl) ?_
 refine .i (sp_neq (hlc rfl) Has.cst) ?_
 refine .dn fun a5 g W5 y5 zz5 hk hg hV hR hP => ?_
 obtain ⟨e7, -, -, -⟩ := hV
 replace e1 := ft hR e1
 replace e3 := ft hR e3
 replace e2 := ft hR e2
 replace D_cn0 := D_cn0.ext hk
 replace D_ci0 := D_ci0.ext hk
 replace e7 := e7.q
 replace own_bq := own_bq.ext hk
 replace own_b3_2 := own_b3_2.ext hk
 replace own_b2_2 := own_b2_2.ext hk
 replace kw := kw.x hk
 clear hR hk hg hP
 refine zn (hK4 _ _ ?_)
 refine zc e7 (fun hc => ?_) (fun hc => ?_)
 ·
  have hk : x.k ≠ 5 := by simp at hc; omega
  have hf : obE most x = 10 := by rw [obE, if_pos hk]
  have hv2 : obV most x = ⟨0, 0, ⟨#[]⟩, [], []⟩ := by rw [obV, hf]; rfl
  refine zq fun K6 hK6 => ?_
  refine rg mixed y5 zz5 ?_
  refine .i (v := (.agg #[(.int .u8 (0)), (.int .i64 (0)), (.string (⟨#[]⟩)), (.slice none 0 0), (.slice none 0 0)])) (sp_build (vs := []) Try.underlying33 z33 (pl33 Try.underlying33) trivial rfl) ?_
  refine .dn fun a7 g W7 y7 zz7 hk hg hV hR hP => ?_
  obtain ⟨e8, -⟩ := hV
  replace e3 := ft hR e3
  replace D_cn0 := D_cn0.ext hk
  replace D_ci0 := D_ci0.ext hk
  replace e8 := e8.q
  replace own_bq := own_bq.ext hk
  replace own_b3_2 := own_b3_2.ext hk
  replace own_b2_2 := own_b2_2.ext hk
  replace kw := kw.x hk
  clear hR hk hg hP
  refine tail_store e3 e8 sz33 rfl own_b3_2 (lbr rfl) (all_cons rfl (all_cons rfl (all_cons rfl (all_cons rfl (all_cons rfl all_nil))))) (fun W8 hs own_b3_2 => ?_)
  have own_b3_2 : Own W8 b3_2 z5C 33 := own_b3_2
  replace own_bq := own_store own_bq hs ne_bq_b3_2
  replace own_b2_2 := own_store own_b2_2 hs ne_b3_2_b2_2.symm
  replace D_cn0 := sa_store D_cn0 hs (by simp)
  replace D_ci0 := sa_store D_ci0 hs (by simp)
  replace kw := keeps_store kw hs lo_b3_2
  clear hs
  refine tail_assign (v := (.int .i64 (10))) rfl (by rw [y7]; exact Nat.le_of_ble_eq_true rfl) (fun a9 y9 zz9 e4 hr => ?_)
  replace y9 := y9.trans y7; replace zz9 := zz9.trans zz7
  replace e3 := (hr 3 (by decide)).trans e3
  replace e8 := (hr 8 (by decide)).trans e8
  clear hr
  refine zn (hK6 _ _ ?_)
  refine wp_ret ?_
  refine retCT (v := (.agg #[(.int .u8 (0)), (.int .i64 (0)), (.string (⟨#[]⟩)), (.slice none 0 0), (.slice none 0 0)])) rfl zz9 e3 own_b3_2 agg33 sz33 rfl (fun h => by cases h) rfl e4 ⟨_, rfl, kw, ?_⟩
  refine ⟨_, by rw [hf], ?_⟩
  rw [hv2]
  exact sa_ar (rdV_mk (lbr rfl) (rd_nil _) (rd_nil _) : Rd W8 (SA w S [b3_2, b2_2]) (V.d (V.mk (0) (0) (⟨#[]⟩) ([]) ([]))) _)
 have hk : ¬ x.k ≠ 5 := by simp at hc; omega
 refine wp_skip (hK3 _ _ ?_)
 refine zq fun K10 hK10 => ?_
 refine zq fun K11 hK11 => ?_
 refine rg mixed y5 zz5 ?_
 refine .i (fo 4 (hbs rfl e2) Try.underlying33 rfl sz31 rfl) ?_
 refine .i (lo1 (hlc rfl) own_b2_2 trivial agg31 sz31 rfl) ?_
 refine .i (sp_lenVs Try.underlying31 ((hlc rfl).dat D_ci0 sub_all)) ?_
 refine .i (lo1 (hbs rfl e1) own_bq trivial agg3 sz3 rfl) ?_
 refine .i (sp_gtr (hlc rfl) (hlc rfl)) ?_
 refine .dn fun a12 g W12 y12 zz12 hk hg hV hR hP => ?_
 obtain ⟨e13, -, -, -, -, -⟩ := hV
 replace e3 := ft hR e3
 replace e2 := ft hR e2
 replace D_cn0 := D_cn0.ext hk
 replace D_ci0 := D_ci0.ext hk
 replace e13 := e13.q
 replace own_bq := own_bq.ext hk
 replace own_b3_2 := own_b3_2.ext hk
 replace own_b2_2 := own_b2_2.ext hk
 replace kw := kw.x hk
 clear hR hk hg hP
 refine zn (hK11 _ _ ?_)
 refine zc e13 (fun hc => ?_) (fun hc => ?_)
 ·
  have hl : most < x.xs.length := of_decide_eq_true hc
  have hf : obE most x = 5 := by rw [obE, if_neg hk, if_pos hl]
  have hv2 : obV most x = ⟨0, 0, ⟨#[]⟩, [], []⟩ := by rw [obV, hf]; rfl
  refine zq fun K13 hK13 => ?_
  refine rg mixed y12 zz12 ?_
  refine .i (v := (.agg #[(.int .u8 (0)), (.int .i64 (0)), (.string (⟨#[]⟩)), (.slice none 0 0), (.slice none 0 0)])) (sp_build (vs := []) Try.underlying33 z33 (pl33 Try.underlying33) trivial rfl) ?_
  refine .dn fun a14 g W14 y14 zz14 hk hg hV hR hP => ?_
  obtain ⟨e14, -⟩ := hV
  replace e3 := ft hR e3
  replace D_cn0 := D_cn0.ext hk
  replace D_ci0 := D_ci0.ext hk
  replace e14 := e14.q
  replace own_bq := own_bq.ext hk
  replace own_b3_2 := own_b3_2.ext hk
  replace own_b2_2 := own_b2_2.ext hk
  replace kw := kw.x hk
  clear hR hk hg hP
  refine tail_store e3 e14 sz33 rfl own_b3_2 (lbr rfl) (all_cons rfl (all_cons rfl (all_cons rfl (all_cons rfl (all_cons rfl all_nil))))) (fun W15 hs own_b3_2 => ?_)
  have own_b3_2 : Own W15 b3_2 z5C 33 := own_b3_2
  replace own_bq := own_store own_bq hs ne_bq_b3_2
  replace own_b2_2 := own_store own_b2_2 hs ne_b3_2_b2_2.symm
  replace D_cn0 := sa_store D_cn0 hs (by simp)
  replace D_ci0 := sa_store D_ci0 hs (by simp)
  replace kw := keeps_store kw hs lo_b3_2
  clear hs
  refine tail_assign (v := (.int .i64 (5))) rfl (by rw [y14]; exact Nat.le_of_ble_eq_true rfl) (fun a16 y16 zz16 e4 hr => ?_)
  replace y16 := y16.trans y14; replace zz16 := zz16.trans zz14
  replace e3 := (hr 3 (by decide)).trans e3
  replace e14 := (hr 14 (by decide)).trans e14
  clear hr
  refine zn (hK13 _ _ ?_)
  refine wp_ret ?_
  refine retCT (v := (.agg #[(.int .u8 (0)), (.int .i64 (0)), (.string (⟨#[]⟩)), (.slice none 0 0), (.slice none 0 0)])) rfl zz16 e3 own_b3_2 agg33 sz33 rfl (fun h => by cases h) rfl e4 ⟨_, rfl, kw, ?_⟩
  refine ⟨_, by rw [hf], ?_⟩
  rw [hv2]
  exact sa_ar (rdV_mk (lbr rfl) (rd_nil _) (rd_nil _) : Rd W15 (SA w S [b3_2, b2_2]) (V.d (V.mk (0) (0) (⟨#[]⟩) ([]) ([]))) _)
 have hl : ¬ most < x.xs.length := of_decide_eq_false hc
 have hf : obE most x = 0 := by rw [obE, if_neg hk, if_neg hl]
 have hv2 : obV most x = x := by rw [obV, if_pos hf]
 refine wp_skip (hK10 _ _ ?_)
 refine zq fun K17 hK17 => ?_
 refine rg mixed y12 zz12 ?_
 refine .i (v := (.agg #[(.int .u8 (x.k)), (.int .i64 (x.n)), (.string (x.t)), (.slice cn0a (x.ns.length) cn0c), (.slice ci0a (x.xs.length) ci0c)])) (loA (hbs rfl e2) own_b2_2 trivial agg33 sz33 rfl rfl) ?_
 refine .dn fun a18 g W18 y18 zz18 hk hg hV hR hP => ?_
 obtain ⟨e15, -⟩ := hV
 replace e3 := ft hR e3
 replace D_cn0 := D_cn0.ext hk
 replace D_ci0 := D_ci0.ext hk
 replace e15 := e15.q
 replace own_bq := own_bq.ext hk
 replace own_b3_2 := own_b3_2.ext hk
 replace own_b2_2 := own_b2_2.ext hk
 replace kw := kw.x hk
 clear hR hk hg hP
 refine tail_store e3 e15 sz33 rfl own_b3_2 (lbr rfl) (all_cons rfl (all_cons rfl (all_cons rfl (all_cons rfl (all_cons rfl all_nil))))) (fun W19 hs own_b3_2 => ?_)
 have own_b3_2 : Own W19 b3_2 [(.int .u8 (x.k)), (.int .i64 (x.n)), (.string (x.t)), (.slice cn0a (x.ns.length) cn0c), (.slice ci0a (x.xs.length) ci0c)] 33 := own_b3_2
 replace own_bq := own_store own_bq hs ne_bq_b3_2
 replace own_b2_2 := own_store own_b2_2 hs ne_b3_2_b2_2.symm
 replace D_cn0 := sa_store D_cn0 hs (by simp)
 replace D_ci0 := sa_store D_ci0 hs (by simp)
 replace kw := keeps_store kw hs lo_b3_2
 clear hs
 refine tail_assign (v := (.int .i64 (0))) rfl (by rw [y18]; exact Nat.le_of_ble_eq_true rfl) (fun a20 y20 zz20 e4 hr => ?_)
 replace y20 := y20.trans y18; replace zz20 := zz20.trans zz18
 replace e3 := (hr 3 (by decide)).trans e3
 replace e15 := (hr 15 (by decide)).trans e15
 clear hr
 refine zn (hK17 _ _ ?_)
 refine wp_ret ?_
 refine retCT (v := (.agg #[(.int .u8 (x.k)), (.int .i64 (x.n)), (.string (x.t)), (.slice cn0a (x.ns.length) cn0c), (.slice ci0a (x.xs.length) ci0c)])) rfl zz20 e3 own_b3_2 agg33 sz33 rfl (fun h => by cases h) rfl e4 ⟨_, rfl, kw, ?_⟩
 refine ⟨_, by rw [hf], ?_⟩
 rw [hv2]
 exact sa_ar (rdV_in (x := x) ht0 D_cn0 D_ci0 : Rd W19 (SA w S [b3_2, b2_2]) (V.d (x)) _)
set_option maxRecDepth 100000 in
theorem any1_ok (x : V) (w : World) (S : BSet) (v : Value) (hv : Rd w S x.d v) : Calls Try.prog 112 #[v] w (Ret w fun r W => ∃ r1, r = .tuple #[r1, .int .i64 (anyE x)] ∧ Rd W (Ar w S) (V.d (x)) r1) := by
 have hf : anyE x = 0 := rfl
 have hv2 : x = x := rfl
 obtain ⟨cn0a, cn0c, ci0a, ci0c, ev, ht0, D_cn0, D_ci0⟩ := rdV_out (rd_arg hv)
 subst ev
 refine enter Try.func112 rfl Try.ntmps112 (lbr rfl) fun a0 y0 zz0 harg => ?_
 have e0 : sl a0 0 = (.agg #[(.int .u8 (x.k)), (.int .i64 (x.n)), (.string (x.t)), (.slice cn0a (x.ns.length) cn0c), (.slice ci0a (x.xs.length) ci0c)]) := harg 0 (lbr rfl)
 have kw := Keeps.refl All w
 clear harg
 refine zq fun K1 hK1 => ?_
 refine rg mixed y0 zz0 ?_
 refine .boxOp (v := (.agg #[(.int .u8 (x.k)), (.int .i64 (x.n)), (.string (x.t)), (.slice cn0a (x.ns.length) cn0c), (.slice ci0a (x.xs.length) ci0c)])) (hbs rfl e0) ?_
 refine .alloc z33 ?_
 refine .ac ?_
 refine .dn fun a2 g W2 y2 zz2 hk hg hV hR hP => ?_
 obtain ⟨-, ⟨b2_2, e2, hb2, own_b2_2⟩, ⟨b1_2, e1, hb1, own_b1_2⟩, -⟩ := hV
 have lo_b2_2 : w.heap.size ≤ b2_2 := Nat.le_trans kw.size (hg.lo _ _ hb2)
 have own_b2_2 : Own W2 b2_2 z5C 33 := own_b2_2
 have lo_b1_2 : w.heap.size ≤ b1_2 := Nat.le_trans kw.size (hg.lo _ _ hb1)
 have own_b1_2 : Own W2 b1_2 [(.int .u8 (x.k)), (.int .i64 (x.n)), (.string (x.t)), (.slice cn0a (x.ns.length) cn0c), (.slice ci0a (x.xs.length) ci0c)] 33 := own_b1_2
 have ne_b2_2_b1_2 : b2_2 ≠ b1_2 := fun h => by have := hg.inj _ _ _ hb2 (h ▸ hb1); cases this
 replace D_cn0 := sa_more D_cn0 hk [b2_2, b1_2] (in_cons (hg.lo _ _ hb2) (in_cons (hg.lo _ _ hb1) in_nil))
 replace D_ci0 := sa_more D_ci0 hk [b2_2, b1_2] (in_cons (hg.lo _ _ hb2) (in_cons (hg.lo _ _ hb1) in_nil))
 replace kw := kw.x hk
 clear hR hk hg hP hb2 hb1
 refine zn (hK1 _ _ ?_)
 refine zq fun K3 hK3 => ?_
 refine rg mixed y2 zz2 ?_
 refine .i (v := (.agg #[(.int .u8 (x.k)), (.int .i64 (x.n)), (.string (x.t)), (.slice cn0a (x.ns.length) cn0c), (.slice ci0a (x.xs.length) ci0c)])) (loA (hbs rfl e1) own_b1_2 trivial agg33 sz33 rfl rfl) ?_
 refine .dn fun a4 g W4 y4 zz4 hk hg hV hR hP => ?_
 obtain ⟨e4, -⟩ := hV
 replace e2 := ft hR e2
 replace D_cn0 := D_cn0.ext hk
 replace D_ci0 := D_ci0.ext hk
 replace e4 := e4.q
 replace own_b2_2 := own_b2_2.ext hk
 replace own_b1_2 := own_b1_2.ext hk
 replace kw := kw.x hk
 clear hR hk hg hP
 refine tail_store e2 e4 sz33 rfl own_b2_2 (lbr rfl) (all_cons rfl (all_cons rfl (all_cons rfl (all_cons rfl (all_cons rfl all_nil))))) (fun W5 hs own_b2_2 => ?_)
 have own_b2_2 : Own W5 b2_2 [(.int .u8 (x.k)), (.int .i64 (x.n)), (.string (x.t)), (.slice cn0a (x.ns.length) cn0c), (.slice ci0a (x.xs.length) ci0c)] 33 := own_b2_2
 replace own_b1_2 := own_store own_b1_2 hs ne_b2_2_b1_2.symm
 replace D_cn0 := sa_store D_cn0 hs (by simp)
 replace D_ci0 := sa_store D_ci0 hs (by simp)
 replace kw := keeps_store kw hs lo_b2_2
 clear hs
 refine tail_assign (v := (.int .i64 (0))) rfl (by rw [y4]; exact Nat.le_of_ble_eq_true rfl) (fun a6 y6 zz6 e3 hr => ?_)
 replace y6 := y6.trans y4; replace zz6 := zz6.trans zz4
 replace e2 := (hr 2 (by decide)).trans e2
 replace e4 := (hr 4 (by decide)).trans e4
 clear hr
 refine zn (hK3 _ _ ?_)
 refine wp_ret ?_
 refine retCT (v := (.agg #[(.int .u8 (x.k)), (.int .i64 (x.n)), (.string (x.t)), (.slice cn0a (x.ns.length) cn0c), (.slice ci0a (x.xs.length) ci0c)])) rfl zz6 e2 own_b2_2 agg33 sz33 rfl (fun h => by cases h) rfl e3 ⟨_, rfl, kw, ?_⟩
 refine ⟨_, by rw [hf], ?_⟩
 exact sa_ar (rdV_in (x := x) ht0 D_cn0 D_ci0 : Rd W5 (SA w S [b2_2, b1_2]) (V.d (x)) _)
set_option maxRecDepth 100000 in
theorem takeV_ok (x : V) (A : As) (e : Int) (hA : AB 1000000 A) (hx : x.wt ≤ 1073741824) (hxt : x.t.size ≤ maxLen) (name : ByteArray) (fi : FuncId) (cb : Array Value) (ce : V → Int) (fv : V → V) (w : World) (S : BSet) (cn ci : Value) (bo bm : Nat) (hS : ∀ b o, S b o → Cln o) (hM : ∀ b ∈ [bo, bm], ∀ o, ¬ S b o) (hne : bo ≠ bm) (hv : Rd w S (strsD x.ns) cn) (hu : Rd w S (valsD x.xs) ci) (own_bo : Own w bo [.int .u8 x.k, .int .i64 x.n, .string x.t, cn, ci, .map (some bm), .int .i64 (e)] 74) (own_bm : OwnM w bm A) (ef : Enters Try.prog fi) (hf : ∀ W, Keeps (fun k => k ∉ [bo, bm]) w W → ∀ (Z : BSet) (y : V) (v : Value), y.wt ≤ 1073741824 → Rd W Z y.d v → Calls Try.prog fi (#[v] ++ cb) W (Ret W fun r W2 => ∃ r1, r = .tuple #[r1, .int .i64 (ce y)] ∧ Rd W2 (Ar W Z) (V.d (fv y)) r1)) : Calls Try.prog 110 #[.pointer (some ⟨bo, 0, none⟩), .string name, .func (.func fi) #[] cb] w (RetL w [bo, bm] fun u W => Rd W (Fr w) (V.d (if tkB x e name ce then fv (getV x name) else ⟨0, 0, ⟨#[]⟩, [], []⟩)) u ∧ Own W bo [.int .u8 x.k, .int .i64 x.n, .string x.t, cn, ci, .map (some bm), .int .i64 (tkE x e name ce)] 74 ∧ OwnM W bm (tkA x A e name ce)) := by
 have hwx := wt_eq x
 have hwl := wts_len x.xs
 have hwn := wtN_len x.ns
 obtain ⟨cna, cnc, ev, D_cn⟩ := rdS_out (rd_argM (M := [bo, bm]) hv hM)
 subst ev
 obtain ⟨cia, cic, ev, D_ci⟩ := rdVs_out (rd_argM (M := [bo, bm]) hu hM)
 subst ev
 refine enter Try.func110 rfl Try.ntmps110 (lbr rfl) fun a0 y0 zz0 harg => ?_
 have e0 : sl a0 0 = (.pointer (some ⟨bo, 0, none⟩)) := harg 0 (lbr rfl)
 have e1 : sl a0 1 = (.string (name)) := harg 1 (lbr rfl)
 have e2 : sl a0 2 = (.func (.func fi) #[] cb) := harg 2 (lbr rfl)
 have kw := Keeps.refl (fun k => k ∉ [bo, bm]) w
 clear harg
 refine zq fun K1 hK1 => ?_
 refine rg mixed y0 zz0 ?_
 refine .alloc z33 ?_
 refine .dn fun a2 g W2 y2 zz2 hk hg hV hR hP => ?_
 obtain ⟨⟨b6_2, e6, hb6, own_b6_2⟩, -⟩ := hV
 have lo_b6_2 : w.heap.size ≤ b6_2 := Nat.le_trans kw.size (hg.lo _ _ hb6)
 have ne_bo_b6_2 : bo ≠ b6_2 := Nat.ne_of_lt (Nat.lt_of_lt_of_le own_bo.lt (hg.lo _ _ hb6))
 have ne_bm_b6_2 : bm ≠ b6_2 := Nat.ne_of_lt (Nat.lt_of_lt_of_le own_bm.lt (hg.lo _ _ hb6))
 have own_b6_2 : Own W2 b6_2 z5C 33 := own_b6_2
 replace e0 := ft hR e0
 replace e1 := ft hR e1
 replace e2 := ft hR e2
 replace D_cn := sa_more D_cn hk [b6_2] (in_cons (hg.lo _ _ hb6) in_nil)
 replace D_ci := sa_more D_ci hk [b6_2] (in_cons (hg.lo _ _ hb6) in_nil)
 replace own_bo := own_bo.ext hk
 replace own_bm := own_bm.ext hk
 replace kw := kw.x hk
 clear hR hk hg hP hb6
 refine zn (hK1 _ _ ?_)
 refine zq fun K3 hK3 => ?_
 refine rg mixed y2 zz2 ?_
 refine .alloc z33 ?_
 refine .dn fun a4 g W4 y4 zz4 hk hg hV hR hP => ?_
 obtain ⟨⟨b7_4, e7, hb7, own_b7_4⟩, -⟩ := hV
 have lo_b7_4 : w.heap.size ≤ b7_4 := Nat.le_trans kw.size (hg.lo _ _ hb7)
 have ne_bo_b7_4 : bo ≠ b7_4 := Nat.ne_of_lt (Nat.lt_of_lt_of_le own_bo.lt (hg.lo _ _ hb7))
 have ne_bm_b7_4 : bm ≠ b7_4 := Nat.ne_of_lt (Nat.lt_of_lt_of_le own_bm.lt (hg.lo _ _ hb7))
 have ne_b6_2_b7_4 : b6_2 ≠ b7_4 := Nat.ne_of_lt (Nat.lt_of_lt_of_le own_b6_2.lt (hg.lo _ _ hb7))
 have own_b7_4 : Own W4 b7_4 z5C 33 := own_b7_4
 replace e0 := ft hR e0
 replace e1 := ft hR e1
 replace e2 := ft hR e2
 replace e6 := ft hR e6
 replace D_cn := sa_more D_cn hk [b7_4] (in_cons (hg.lo _ _ hb7) in_nil)
 replace D_ci := sa_more D_ci hk [b7_4] (in_cons (hg.lo _ _ hb7) in_nil)
 replace own_bo := own_bo.ext hk
 replace own_bm := own_bm.ext hk
 replace own_b6_2 := own_b6_2.ext hk
 replace kw := kw.x hk
 clear hR hk hg hP hb7
 refine zn (hK3 _ _ ?_)
 refine zq fun K5 hK5 => ?_
 refine zq fun K6 hK6 => ?_
 refine rg mixed y4 zz4 ?_
 refine .mb rfl e0 ?_
 refine .i (v := (.int .i64 (errK x.k e))) (sp_call1 (φ1 := Is (.pointer (some ⟨bo, 0, none⟩))) ent24 (hlc rfl) (fun g u1 W hk hgk h1 => by have h1 : u1 = _ := h1; subst u1; exact Err_ok _ _ _ _ _ _ _ W _ (own_bo.ext hk))) ?_
 refine .i (sp_neq (hlc rfl) Has.cst) ?_
 refine .dn fun a7 g W7 y7 zz7 hk hg hV hR hP => ?_
 obtain ⟨e14, -, -, -⟩ := hV
 replace e0 := ft hR e0
 replace e1 := ft hR e1
 replace e2 := ft hR e2
 replace e6 := ft hR e6
 replace e7 := ft hR e7
 replace D_cn := D_cn.ext hk
 replace D_ci := D_ci.ext hk
 replace e14 := e14.q
 replace own_bo := own_bo.ext hk
 replace own_bm := own_bm.ext hk
 replace own_b6_2 := own_b6_2.ext hk
 replace own_b7_4 := own_b7_4.ext hk
 replace kw := kw.x hk
 clear hR hk hg hP
 refine zn (hK6 _ _ ?_)
 refine zc e14 (fun hc => ?_) (fun hc => ?_)
 ·
  have hE : errK x.k e ≠ 0 := by simpa using hc
  have h1 : tkE x e name ce = e := by rw [tkE, if_pos hE]
  have h2 : tkB x e name ce = false := by simp [tkB, hE]
  have h3 : tkA x A e name ce = A := by rw [tkA, h2]; rfl
  refine zq fun K8 hK8 => ?_
  refine rg mixed y7 zz7 ?_
  refine .i (v := (.agg #[(.int .u8 (0)), (.int .i64 (0)), (.string (⟨#[]⟩)), (.slice none 0 0), (.slice none 0 0)])) (loA (hbs rfl e7) own_b7_4 trivial agg33 sz33 rfl rfl) ?_
  refine .dn fun a9 g W9 y9 zz9 hk hg hV hR hP => ?_
  obtain ⟨e15, -⟩ := hV
  replace e6 := ft hR e6
  replace D_cn := D_cn.ext hk
  replace D_ci := D_ci.ext hk
  replace e15 := e15.q
  replace own_bo := own_bo.ext hk
  replace own_bm := own_bm.ext hk
  replace own_b6_2 := own_b6_2.ext hk
  replace own_b7_4 := own_b7_4.ext hk
  replace kw := kw.x hk
  clear hR hk hg hP
  refine tail_store e6 e15 sz33 rfl own_b6_2 (lbr rfl) (all_cons rfl (all_cons rfl (all_cons rfl (all_cons rfl (all_cons rfl all_nil))))) (fun W10 hs own_b6_2 => ?_)
  have own_b6_2 : Own W10 b6_2 z5C 33 := own_b6_2
  replace own_bo := own_store own_bo hs ne_bo_b6_2
  replace own_bm := ownM_store own_bm hs ne_bm_b6_2
  replace own_b7_4 := own_store own_b7_4 hs ne_b6_2_b7_4.symm
  replace D_cn := sa_store D_cn hs (by simp)
  replace D_ci := sa_store D_ci hs (by simp)
  replace kw := keeps_store kw hs lo_b6_2
  clear hs
  refine zn (hK8 _ _ ?_)
  refine wp_ret ?_
  refine retC (v := (.agg #[(.int .u8 (0)), (.int .i64 (0)), (.string (⟨#[]⟩)), (.slice none 0 0), (.slice none 0 0)])) rfl zz9 e6 own_b6_2 agg33 sz33 rfl (fun h => by cases h) rfl ⟨_, rfl, kw, ?_⟩
  rw [h1, h3, h2]
  exact ⟨sf_fr (rdV_mk (lbr rfl) (rd_nil _) (rd_nil _) : Rd W10 (SF w [b7_4, b6_2, bo, bm]) (V.d (V.mk (0) (0) (⟨#[]⟩) ([]) ([]))) _), own_bo, own_bm⟩
 have hE : errK x.k e = 0 := by simpa using hc
 have he0 := (errK_zero hE).1
 refine wp_skip (hK5 _ _ ?_)
 refine zq fun K11 hK11 => ?_
 refine rg mixed y7 zz7 ?_
 refine .mb rfl e0 ?_
 refine .i (sp_nilP (hlc rfl)) ?_
 refine .i (fo 0 (hlc rfl) Try.underlying74 rfl sz33 rfl) ?_
 refine .i (v := (.agg #[(.int .u8 (x.k)), (.int .i64 (x.n)), (.string (x.t)), (.slice cna (x.ns.length) cnc), (.slice cia (x.xs.length) cic)])) (loA (hlc rfl) own_bo trivial agg33 sz33 rfl rfl) ?_
 refine .mb rfl e1 ?_
 refine .op (φ := IsT (IsD (Fr W7) (V.d (getV (x) name))) (Is (.bool (getB (x) name)))) (st_t (st_d sub_all) (st_is _)) (sp_call2 (φ1 := IsD (SA w S [b7_4, b6_2, bo, bm]) (V.d (x))) (φ2 := Is (.string (name))) ent101 ((hlc rfl).dat (rdV_in (x := x) hxt D_cn D_ci : Rd W7 (SA w S [b7_4, b6_2, bo, bm]) (V.d (x)) _) sub_all) (hlc rfl) (fun g u1 u2 W hk hgk h1 h2 => by have h2 : u2 = _ := h2; subst u2; exact (Get_ok (x) (name) (by omega) W _ _ (fun b o h => sa_cln hS b o h.1) h1).mono (fun _ _ ⟨v, h1, h2, r1, h3, h4⟩ => ⟨v, h1, h2, r1, _, h3, fresh_d hk hgk h4, rfl⟩))) ?_
 refine .op (φ := IsT (IsD (Fr W7) (V.d (getV (x) name))) (Is (.bool (getB (x) name)))) (st_t (st_d sub_all) (st_is _)) (sp_move (hlc rfl)) ?_
 refine .da (X := Fr W7) (e := V.d (getV (x) name)) (sp_ext2 (hlc rfl) rfl) ?_
 refine .i (v := (.bool (getB (x) name))) (sp_ext2' (hlc rfl) rfl) ?_
 refine .alloc z33 ?_
 refine .dn fun a12 g W12 y12 zz12 hk hg hV hR hP => ?_
 obtain ⟨⟨b8_12, e8, hb8, own_b8_12⟩, e24, e23, -, -, -, -, -, -, -, -⟩ := hV
 have lo_b8_12 : w.heap.size ≤ b8_12 := Nat.le_trans kw.size (hg.lo _ _ hb8)
 have ne_bo_b8_12 : bo ≠ b8_12 := Nat.ne_of_lt (Nat.lt_of_lt_of_le own_bo.lt (hg.lo _ _ hb8))
 have ne_bm_b8_12 : bm ≠ b8_12 := Nat.ne_of_lt (Nat.lt_of_lt_of_le own_bm.lt (hg.lo _ _ hb8))
 have ne_b6_2_b8_12 : b6_2 ≠ b8_12 := Nat.ne_of_lt (Nat.lt_of_lt_of_le own_b6_2.lt (hg.lo _ _ hb8))
 have ne_b7_4_b8_12 : b7_4 ≠ b8_12 := Nat.ne_of_lt (Nat.lt_of_lt_of_le own_b7_4.lt (hg.lo _ _ hb8))
 have own_b8_12 : Own W12 b8_12 z5C 33 := own_b8_12
 replace e0 := ft hR e0
 replace e1 := ft hR e1
 replace e2 := ft hR e2
 replace e6 := ft hR e6
 replace e7 := ft hR e7
 replace D_cn := sa_more D_cn hk [b8_12] (in_cons (hg.lo _ _ hb8) in_nil)
 replace D_ci := sa_more D_ci hk [b8_12] (in_cons (hg.lo _ _ hb8) in_nil)
 obtain ⟨v23_12, ev⟩ : ∃ v, sl a12 23 = v := ⟨_, rfl⟩
 rw [ev] at e23
 have D_v23_12 : Rd W12 (SF w [b8_12, b7_4, b6_2, bo, bm]) (V.d (getV (x) name)) v23_12 := fr_end (M := [b7_4, b6_2, bo, bm]) e23 kw [b8_12] (in_cons ⟨_, hb8⟩ in_nil) (in_cons own_b7_4.lt (in_cons own_b6_2.lt (in_cons own_bo.lt (in_cons own_bm.lt in_nil))))
 replace e23 := ev; clear ev
 obtain ⟨cn23_12a, cn23_12c, ci23_12a, ci23_12c, ev, ht_v23_12, D_cn23_12, D_ci23_12⟩ := rdV_out D_v23_12
 subst ev; clear D_v23_12
 replace e24 := e24.q
 replace own_bo := own_bo.ext hk
 replace own_bm := own_bm.ext hk
 replace own_b6_2 := own_b6_2.ext hk
 replace own_b7_4 := own_b7_4.ext hk
 replace kw := kw.x hk
 clear hR hk hg hP hb8
 refine tail_store e8 e23 sz33 rfl own_b8_12 (lbr rfl) (all_cons rfl (all_cons rfl (all_cons rfl (all_cons rfl (all_cons rfl all_nil))))) (fun W13 hs own_b8_12 => ?_)
 have own_b8_12 : Own W13 b8_12 [(.int .u8 ((getV (x) name).k)), (.int .i64 ((getV (x) name).n)), (.string ((getV (x) name).t)), (.slice cn23_12a (((getV (x) name).ns).length) cn23_12c), (.slice ci23_12a (((getV (x) name).xs).length) ci23_12c)] 33 := own_b8_12
 replace own_bo := own_store own_bo hs ne_bo_b8_12
 replace own_bm := ownM_store own_bm hs ne_bm_b8_12
 replace own_b6_2 := own_store own_b6_2 hs ne_b6_2_b8_12
 replace own_b7_4 := own_store own_b7_4 hs ne_b7_4_b8_12
 replace D_cn := sa_store D_cn hs (by simp)
 replace D_ci := sa_store D_ci hs (by simp)
 replace D_cn23_12 := sf_store D_cn23_12 hs (by simp)
 replace D_ci23_12 := sf_store D_ci23_12 hs (by simp)
 replace kw := keeps_store kw hs lo_b8_12
 clear hs
 refine tail_assign (v := (.bool (getB (x) name))) e24 (by rw [y12]; exact Nat.le_of_ble_eq_true rfl) (fun a14 y14 zz14 e9 hr => ?_)
 replace y14 := y14.trans y12; replace zz14 := zz14.trans zz12
 replace e0 := (hr 0 (by decide)).trans e0
 replace e1 := (hr 1 (by decide)).trans e1
 replace e2 := (hr 2 (by decide)).trans e2
 replace e6 := (hr 6 (by decide)).trans e6
 replace e7 := (hr 7 (by decide)).trans e7
 replace e8 := (hr 8 (by decide)).trans e8
 replace e23 := (hr 23 (by decide)).trans e23
 replace e24 := (hr 24 (by decide)).trans e24
 clear hr
 refine zn (hK11 _ _ ?_)
 refine zq fun K15 hK15 => ?_
 refine zq fun K16 hK16 => ?_
 refine rg mixed y14 zz14 ?_
 refine .mb rfl e9 ?_
 refine .i (sp_not (hlc rfl)) ?_
 refine .dn fun a17 g W17 y17 zz17 hk hg hV hR hP => ?_
 obtain ⟨e26, -, -⟩ := hV
 replace e0 := ft hR e0
 replace e1 := ft hR e1
 replace e2 := ft hR e2
 replace e6 := ft hR e6
 replace e7 := ft hR e7
 replace e8 := ft hR e8
 replace D_cn := D_cn.ext hk
 replace D_ci := D_ci.ext hk
 replace D_cn23_12 := D_cn23_12.ext hk
 replace D_ci23_12 := D_ci23_12.ext hk
 replace e26 := e26.q
 replace own_bo := own_bo.ext hk
 replace own_bm := own_bm.ext hk
 replace own_b6_2 := own_b6_2.ext hk
 replace own_b7_4 := own_b7_4.ext hk
 replace own_b8_12 := own_b8_12.ext hk
 replace kw := kw.x hk
 clear hR hk hg hP
 refine zn (hK16 _ _ ?_)
 refine zc e26 (fun hc => ?_) (fun hc => ?_)
 ·
  have hg0 : getB x name = false := by simpa using hc
  have h1 : tkE x e name ce = failK x.k e 6 := by rw [tkE, if_neg (by simp [hE]), if_pos hg0, failK, if_pos hE]
  have h2 : tkB x e name ce = false := by simp [tkB, hg0]
  have h3 : tkA x A e name ce = A := by rw [tkA, h2]; rfl
  refine zq fun K18 hK18 => ?_
  refine wp_reg (fun k => k ∉ [bo]) (Ψ := fun W => Own W bo [(.int .u8 (x.k)), (.int .i64 (x.n)), (.string (x.t)), (.slice cna (x.ns.length) cnc), (.slice cia (x.xs.length) cic), (.map (some bm)), (.int .i64 (e))] 74) mixed y17 zz17 stE_own own_bo ?_
  refine .mb rfl e0 ?_
  refine .callL2 (φ1 := Is (.pointer (some ⟨bo, 0, none⟩))) (φ2 := Is (.int .i64 (6))) (φ := Is (.tuple #[])) (Ψ' := fun W => Own W bo [(.int .u8 (x.k)), (.int .i64 (x.n)), (.string (x.t)), (.slice cna (x.ns.length) cnc), (.slice cia (x.xs.length) cic), (.map (some bm)), (.int .i64 (failK x.k e 6))] 74) ent22 (hlc rfl) Has.cst (st_is _) stE_own (fun g u1 u2 W hk hg h1 h2 hP => by have h1 : u1 = _ := h1; subst u1; have h2 : u2 = _ := h2; subst u2; exact (Fail_ok _ _ _ _ _ _ _ (6) W _ hP)) ?_
  refine .dn fun a19 g W19 y19 zz19 hk hg hV hR hP => ?_
  obtain ⟨-, -, -⟩ := hV
  replace e6 := ft hR e6
  replace e7 := ft hR e7
  replace D_cn := sa_keepL D_cn hk (by simp)
  replace D_ci := sa_keepL D_ci hk (by simp)
  replace D_cn23_12 := sf_keepL D_cn23_12 hk (by simp)
  replace D_ci23_12 := sf_keepL D_ci23_12 hk (by simp)
  replace own_bm := ownM_keepL own_bm hk (by simp [hne.symm])
  replace own_b6_2 := own_keepL own_b6_2 hk (by simp [ne_bo_b6_2.symm])
  replace own_b7_4 := own_keepL own_b7_4 hk (by simp [ne_bo_b7_4.symm])
  replace own_b8_12 := own_keepL own_b8_12 hk (by simp [ne_bo_b8_12.symm])
  have own_bo := hP
  replace own_bo : Own W19 bo [(.int .u8 (x.k)), (.int .i64 (x.n)), (.string (x.t)), (.slice cna (x.ns.length) cnc), (.slice cia (x.xs.length) cic), (.map (some bm)), (.int .i64 (failK x.k e 6))] 74 := own_bo
  replace kw := keeps_L kw hk (in_cons (.inr (by simp)) in_nil)
  clear hR hk hg hP
  refine zn (hK18 _ _ ?_)
  refine zq fun K20 hK20 => ?_
  refine rg mixed y19 zz19 ?_
  refine .i (v := (.agg #[(.int .u8 (0)), (.int .i64 (0)), (.string (⟨#[]⟩)), (.slice none 0 0), (.slice none 0 0)])) (loA (hbs rfl e7) own_b7_4 trivial agg33 sz33 rfl rfl) ?_
  refine .dn fun a21 g W21 y21 zz21 hk hg hV hR hP => ?_
  obtain ⟨e29, -⟩ := hV
  replace e6 := ft hR e6
  replace D_cn := D_cn.ext hk
  replace D_ci := D_ci.ext hk
  replace e29 := e29.q
  replace own_bo := own_bo.ext hk
  replace own_bm := own_bm.ext hk
  replace own_b6_2 := own_b6_2.ext hk
  replace own_b7_4 := own_b7_4.ext hk
  replace own_b8_12 := own_b8_12.ext hk
  replace kw := kw.x hk
  clear hR hk hg hP
  refine tail_store e6 e29 sz33 rfl own_b6_2 (lbr rfl) (all_cons rfl (all_cons rfl (all_cons rfl (all_cons rfl (all_cons rfl all_nil))))) (fun W22 hs own_b6_2 => ?_)
  have own_b6_2 : Own W22 b6_2 z5C 33 := own_b6_2
  replace own_bo := own_store own_bo hs ne_bo_b6_2
  replace own_bm := ownM_store own_bm hs ne_bm_b6_2
  replace own_b7_4 := own_store own_b7_4 hs ne_b6_2_b7_4.symm
  replace own_b8_12 := own_store own_b8_12 hs ne_b6_2_b8_12.symm
  replace D_cn := sa_store D_cn hs (by simp)
  replace D_ci := sa_store D_ci hs (by simp)
  replace kw := keeps_store kw hs lo_b6_2
  clear hs
  refine zn (hK20 _ _ ?_)
  refine wp_ret ?_
  refine retC (v := (.agg #[(.int .u8 (0)), (.int .i64 (0)), (.string (⟨#[]⟩)), (.slice none 0 0), (.slice none 0 0)])) rfl zz21 e6 own_b6_2 agg33 sz33 rfl (fun h => by cases h) rfl ⟨_, rfl, kw, ?_⟩
  rw [h1, h3, h2]
  exact ⟨sf_fr (rdV_mk (lbr rfl) (rd_nil _) (rd_nil _) : Rd W22 (SF w [b8_12, b7_4, b6_2, bo, bm]) (V.d (V.mk (0) (0) (⟨#[]⟩) ([]) ([]))) _), own_bo, own_bm⟩
 have hg1 : getB x name = true := by simpa using hc
 have hAn := hA name
 have hwg := Nat.le_trans (getV_wt x name) hx
 refine wp_skip (hK15 _ _ ?_)
 refine zq fun K23 hK23 => ?_
 refine rg mixed y17 zz17 ?_
 refine .mb rfl e2 ?_
 refine .i (v := (.agg #[(.int .u8 ((getV (x) name).k)), (.int .i64 ((getV (x) name).n)), (.string ((getV (x) name).t)), (.slice cn23_12a (((getV (x) name).ns).length) cn23_12c), (.slice ci23_12a (((getV (x) name).xs).length) ci23_12c)])) (loA (hbs rfl e8) own_b8_12 trivial agg33 sz33 rfl rfl) ?_
 refine .op (φ := IsT (IsD (SF w [b8_12, b7_4, b6_2, bo, bm]) (V.d (fv (getV x name)))) (Is (.int .i64 (ce (getV x name))))) (st_t (st_d sub_all) (st_is _)) (sp_callF1 ef (hlc rfl) (hlc rfl) (fun g W hk hgk => (hf W (kw.trans (.of_ext hk)) _ _ _ hwg (rd_base (rdV_in (x := (getV (x) name)) ht_v23_12 D_cn23_12 D_ci23_12 : Rd W17 (SF w [b8_12, b7_4, b6_2, bo, bm]) (V.d ((getV (x) name))) _) hk hgk sub_all)).mono (fun _ _ ⟨v, h1, h2, r1, h3, h4⟩ => ⟨v, h1, h2, r1, _, h3, rd_ar_sf kw (in_cons own_b8_12.lt (in_cons own_b7_4.lt (in_cons own_b6_2.lt (in_cons own_bo.lt (in_cons own_bm.lt in_nil))))) hk hgk h4, rfl⟩))) ?_
 refine .op (φ := IsT (IsD (SF w [b8_12, b7_4, b6_2, bo, bm]) (V.d (fv (getV x name)))) (Is (.int .i64 (ce (getV x name))))) (st_t (st_d sub_all) (st_is _)) (sp_move (hlc rfl)) ?_
 refine .da (X := SF w [b8_12, b7_4, b6_2, bo, bm]) (e := V.d (fv (getV x name))) (sp_ext2 (hlc rfl) rfl) ?_
 refine .i (v := (.int .i64 (ce (getV x name)))) (sp_ext2' (hlc rfl) rfl) ?_
 refine .alloc z33 ?_
 refine .dn fun a24 g W24 y24 zz24 hk hg hV hR hP => ?_
 obtain ⟨⟨b10_24, e10, hb10, own_b10_24⟩, e35, e34, -, -, -, -, -⟩ := hV
 have lo_b10_24 : w.heap.size ≤ b10_24 := Nat.le_trans kw.size (hg.lo _ _ hb10)
 have ne_bo_b10_24 : bo ≠ b10_24 := Nat.ne_of_lt (Nat.lt_of_lt_of_le own_bo.lt (hg.lo _ _ hb10))
 have ne_bm_b10_24 : bm ≠ b10_24 := Nat.ne_of_lt (Nat.lt_of_lt_of_le own_bm.lt (hg.lo _ _ hb10))
 have ne_b6_2_b10_24 : b6_2 ≠ b10_24 := Nat.ne_of_lt (Nat.lt_of_lt_of_le own_b6_2.lt (hg.lo _ _ hb10))
 have ne_b7_4_b10_24 : b7_4 ≠ b10_24 := Nat.ne_of_lt (Nat.lt_of_lt_of_le own_b7_4.lt (hg.lo _ _ hb10))
 have ne_b8_12_b10_24 : b8_12 ≠ b10_24 := Nat.ne_of_lt (Nat.lt_of_lt_of_le own_b8_12.lt (hg.lo _ _ hb10))
 have own_b10_24 : Own W24 b10_24 z5C 33 := own_b10_24
 replace e0 := ft hR e0
 replace e1 := ft hR e1
 replace e6 := ft hR e6
 replace e7 := ft hR e7
 replace D_cn := sa_more D_cn hk [b10_24] (in_cons (hg.lo _ _ hb10) in_nil)
 replace D_ci := sa_more D_ci hk [b10_24] (in_cons (hg.lo _ _ hb10) in_nil)
 replace D_cn23_12 := sf_more D_cn23_12 hk [b10_24] (in_cons (hg.lo _ _ hb10) in_nil)
 replace D_ci23_12 := sf_more D_ci23_12 hk [b10_24] (in_cons (hg.lo _ _ hb10) in_nil)
 obtain ⟨v34_24, ev⟩ : ∃ v, sl a24 34 = v := ⟨_, rfl⟩
 rw [ev] at e34
 have D_v34_24 : Rd W24 (SF w [b10_24, b8_12, b7_4, b6_2, bo, bm]) (V.d (fv (getV x name))) v34_24 := sf_end e34 hk [b10_24] (in_cons ⟨_, hb10⟩ in_nil)
 replace e34 := ev; clear ev
 obtain ⟨cn34_24a, cn34_24c, ci34_24a, ci34_24c, ev, ht_v34_24, D_cn34_24, D_ci34_24⟩ := rdV_out D_v34_24
 subst ev; clear D_v34_24
 replace e35 := e35.q
 replace own_bo := own_bo.ext hk
 replace own_bm := own_bm.ext hk
 replace own_b6_2 := own_b6_2.ext hk
 replace own_b7_4 := own_b7_4.ext hk
 replace own_b8_12 := own_b8_12.ext hk
 replace kw := kw.x hk
 clear hR hk hg hP hb10
 refine tail_store e10 e34 sz33 rfl own_b10_24 (lbr rfl) (all_cons rfl (all_cons rfl (all_cons rfl (all_cons rfl (all_cons rfl all_nil))))) (fun W25 hs own_b10_24 => ?_)
 have own_b10_24 : Own W25 b10_24 [(.int .u8 ((fv (getV x name)).k)), (.int .i64 ((fv (getV x name)).n)), (.string ((fv (getV x name)).t)), (.slice cn34_24a (((fv (getV x name)).ns).length) cn34_24c), (.slice ci34_24a (((fv (getV x name)).xs).length) ci34_24c)] 33 := own_b10_24
 replace own_bo := own_store own_bo hs ne_bo_b10_24
 replace own_bm := ownM_store own_bm hs ne_bm_b10_24
 replace own_b6_2 := own_store own_b6_2 hs ne_b6_2_b10_24
 replace own_b7_4 := own_store own_b7_4 hs ne_b7_4_b10_24
 replace own_b8_12 := own_store own_b8_12 hs ne_b8_12_b10_24
 replace D_cn := sa_store D_cn hs (by simp)
 replace D_ci := sa_store D_ci hs (by simp)
 replace D_cn23_12 := sf_store D_cn23_12 hs (by simp)
 replace D_ci23_12 := sf_store D_ci23_12 hs (by simp)
 replace D_cn34_24 := sf_store D_cn34_24 hs (by simp)
 replace D_ci34_24 := sf_store D_ci34_24 hs (by simp)
 replace kw := keeps_store kw hs lo_b10_24
 clear hs
 refine tail_assign (v := (.int .i64 (ce (getV x name)))) e35 (by rw [y24]; exact Nat.le_of_ble_eq_true rfl) (fun a26 y26 zz26 e11 hr => ?_)
 replace y26 := y26.trans y24; replace zz26 := zz26.trans zz24
 replace e0 := (hr 0 (by decide)).trans e0
 replace e1 := (hr 1 (by decide)).trans e1
 replace e6 := (hr 6 (by decide)).trans e6
 replace e7 := (hr 7 (by decide)).trans e7
 replace e10 := (hr 10 (by decide)).trans e10
 replace e34 := (hr 34 (by decide)).trans e34
 replace e35 := (hr 35 (by decide)).trans e35
 clear hr
 refine zn (hK23 _ _ ?_)
 refine zq fun K27 hK27 => ?_
 refine zq fun K28 hK28 => ?_
 refine rg mixed y26 zz26 ?_
 refine .mb rfl e11 ?_
 refine .i (sp_neq (hlc rfl) Has.cst) ?_
 refine .dn fun a29 g W29 y29 zz29 hk hg hV hR hP => ?_
 obtain ⟨e37, -, -⟩ := hV
 replace e0 := ft hR e0
 replace e1 := ft hR e1
 replace e6 := ft hR e6
 replace e7 := ft hR e7
 replace e10 := ft hR e10
 replace e11 := ft hR e11
 replace D_cn := D_cn.ext hk
 replace D_ci := D_ci.ext hk
 replace D_cn34_24 := D_cn34_24.ext hk
 replace D_ci34_24 := D_ci34_24.ext hk
 replace e37 := e37.q
 replace own_bo := own_bo.ext hk
 replace own_bm := own_bm.ext hk
 replace own_b6_2 := own_b6_2.ext hk
 replace own_b7_4 := own_b7_4.ext hk
 replace own_b8_12 := own_b8_12.ext hk
 replace own_b10_24 := own_b10_24.ext hk
 replace kw := kw.x hk
 clear hR hk hg hP
 refine zn (hK28 _ _ ?_)
 refine zc e37 (fun hc => ?_) (fun hc => ?_)
 ·
  have hce : ce (getV x name) ≠ 0 := by simpa using hc
  have h1 : tkE x e name ce = failK x.k e (ce (getV x name)) := by rw [tkE, if_neg (by simp [hE]), if_neg (by simp [hg1]), failK, if_pos hE]
  have h2 : tkB x e name ce = false := by simp [tkB, hce]
  have h3 : tkA x A e name ce = A := by rw [tkA, h2]; rfl
  refine zq fun K30 hK30 => ?_
  refine wp_reg (fun k => k ∉ [bo]) (Ψ := fun W => Own W bo [(.int .u8 (x.k)), (.int .i64 (x.n)), (.string (x.t)), (.slice cna (x.ns.length) cnc), (.slice cia (x.xs.length) cic), (.map (some bm)), (.int .i64 (e))] 74) mixed y29 zz29 stE_own own_bo ?_
  refine .mb rfl e0 ?_
  refine .mb rfl e11 ?_
  refine .callL2 (φ1 := Is (.pointer (some ⟨bo, 0, none⟩))) (φ2 := Is (.int .i64 (ce (getV x name)))) (φ := Is (.tuple #[])) (Ψ' := fun W => Own W bo [(.int .u8 (x.k)), (.int .i64 (x.n)), (.string (x.t)), (.slice cna (x.ns.length) cnc), (.slice cia (x.xs.length) cic), (.map (some bm)), (.int .i64 (failK x.k e (ce (getV x name))))] 74) ent22 (hlc rfl) (hlc rfl) (st_is _) stE_own (fun g u1 u2 W hk hg h1 h2 hP => by have h1 : u1 = _ := h1; subst u1; have h2 : u2 = _ := h2; subst u2; exact (Fail_ok _ _ _ _ _ _ _ (ce (getV x name)) W _ hP)) ?_
  refine .dn fun a31 g W31 y31 zz31 hk hg hV hR hP => ?_
  obtain ⟨-, -, -, -⟩ := hV
  replace e6 := ft hR e6
  replace e7 := ft hR e7
  replace D_cn := sa_keepL D_cn hk (by simp)
  replace D_ci := sa_keepL D_ci hk (by simp)
  replace D_cn34_24 := sf_keepL D_cn34_24 hk (by simp)
  replace D_ci34_24 := sf_keepL D_ci34_24 hk (by simp)
  replace own_bm := ownM_keepL own_bm hk (by simp [hne.symm])
  replace own_b6_2 := own_keepL own_b6_2 hk (by simp [ne_bo_b6_2.symm])
  replace own_b7_4 := own_keepL own_b7_4 hk (by simp [ne_bo_b7_4.symm])
  replace own_b8_12 := own_keepL own_b8_12 hk (by simp [ne_bo_b8_12.symm])
  replace own_b10_24 := own_keepL own_b10_24 hk (by simp [ne_bo_b10_24.symm])
  have own_bo := hP
  replace own_bo : Own W31 bo [(.int .u8 (x.k)), (.int .i64 (x.n)), (.string (x.t)), (.slice cna (x.ns.length) cnc), (.slice cia (x.xs.length) cic), (.map (some bm)), (.int .i64 (failK x.k e (ce (getV x name))))] 74 := own_bo
  replace kw := keeps_L kw hk (in_cons (.inr (by simp)) in_nil)
  clear hR hk hg hP
  refine zn (hK30 _ _ ?_)
  refine zq fun K32 hK32 => ?_
  refine rg mixed y31 zz31 ?_
  refine .i (v := (.agg #[(.int .u8 (0)), (.int .i64 (0)), (.string (⟨#[]⟩)), (.slice none 0 0), (.slice none 0 0)])) (loA (hbs rfl e7) own_b7_4 trivial agg33 sz33 rfl rfl) ?_
  refine .dn fun a33 g W33 y33 zz33 hk hg hV hR hP => ?_
  obtain ⟨e41, -⟩ := hV
  replace e6 := ft hR e6
  replace D_cn := D_cn.ext hk
  replace D_ci := D_ci.ext hk
  replace e41 := e41.q
  replace own_bo := own_bo.ext hk
  replace own_bm := own_bm.ext hk
  replace own_b6_2 := own_b6_2.ext hk
  replace own_b7_4 := own_b7_4.ext hk
  replace own_b8_12 := own_b8_12.ext hk
  replace own_b10_24 := own_b10_24.ext hk
  replace kw := kw.x hk
  clear hR hk hg hP
  refine tail_store e6 e41 sz33 rfl own_b6_2 (lbr rfl) (all_cons rfl (all_cons rfl (all_cons rfl (all_cons rfl (all_cons rfl all_nil))))) (fun W34 hs own_b6_2 => ?_)
  have own_b6_2 : Own W34 b6_2 z5C 33 := own_b6_2
  replace own_bo := own_store own_bo hs ne_bo_b6_2
  replace own_bm := ownM_store own_bm hs ne_bm_b6_2
  replace own_b7_4 := own_store own_b7_4 hs ne_b6_2_b7_4.symm
  replace own_b8_12 := own_store own_b8_12 hs ne_b6_2_b8_12.symm
  replace own_b10_24 := own_store own_b10_24 hs ne_b6_2_b10_24.symm
  replace D_cn := sa_store D_cn hs (by simp)
  replace D_ci := sa_store D_ci hs (by simp)
  replace kw := keeps_store kw hs lo_b6_2
  clear hs
  refine zn (hK32 _ _ ?_)
  refine wp_ret ?_
  refine retC (v := (.agg #[(.int .u8 (0)), (.int .i64 (0)), (.string (⟨#[]⟩)), (.slice none 0 0), (.slice none 0 0)])) rfl zz33 e6 own_b6_2 agg33 sz33 rfl (fun h => by cases h) rfl ⟨_, rfl, kw, ?_⟩
  rw [h1, h3, h2]
  exact ⟨sf_fr (rdV_mk (lbr rfl) (rd_nil _) (rd_nil _) : Rd W34 (SF w [b10_24, b8_12, b7_4, b6_2, bo, bm]) (V.d (V.mk (0) (0) (⟨#[]⟩) ([]) ([]))) _), own_bo, own_bm⟩
 have hce : ce (getV x name) = 0 := by simpa using hc
 have h1 : tkE x e name ce = e := by rw [tkE, if_neg (by simp [hE]), if_neg (by simp [hg1]), hce, he0]
 have h2 : tkB x e name ce = true := by simp [tkB, hE, hg1, hce]
 have h3 : tkA x A e name ce = mset A name (mget A name + 1) := by rw [tkA, h2]; rfl
 refine wp_skip (hK27 _ _ ?_)
 refine zq fun K35 hK35 => ?_
 refine rg mixed y29 zz29 ?_
 refine .mb rfl e0 ?_
 refine .i (sp_nilP (hlc rfl)) ?_
 refine .i (fo 5 (hlc rfl) Try.underlying74 rfl sz72 rfl) ?_
 refine .i (lo1 (hlc rfl) own_bo trivial agg72 sz72 rfl) ?_
 refine .mb rfl e1 ?_
 refine .i (sp_lookup Try.underlying72 Try.underlying9 z3 (hlc rfl) (hlc rfl) own_bm trivial) ?_
 refine .i (sp_add (hlc rfl) Has.cst (i64_in (by omega))) ?_
 refine .dn fun a36 g W36 y36 zz36 hk hg hV hR hP => ?_
 obtain ⟨e48, -, e46, e45, -, -, -, -⟩ := hV
 replace e6 := ft hR e6
 replace e10 := ft hR e10
 replace D_cn := D_cn.ext hk
 replace D_ci := D_ci.ext hk
 replace D_cn34_24 := D_cn34_24.ext hk
 replace D_ci34_24 := D_ci34_24.ext hk
 replace e45 := e45.q
 replace e46 := e46.q
 replace e48 := e48.q
 replace own_bo := own_bo.ext hk
 replace own_bm := own_bm.ext hk
 replace own_b6_2 := own_b6_2.ext hk
 replace own_b7_4 := own_b7_4.ext hk
 replace own_b8_12 := own_b8_12.ext hk
 replace own_b10_24 := own_b10_24.ext hk
 replace kw := kw.x hk
 clear hR hk hg hP
 refine tail_updM Try.underlying72 Try.underlying9 e45 e46 e48 own_bm (fun W37 hs own_bm => ?_)
 have own_bm : OwnM W37 bm (mset A name ((mget A name : Int) + (1 : Int))) := own_bm
 replace own_bo := own_store own_bo hs hne
 replace own_b6_2 := own_store own_b6_2 hs ne_bm_b6_2.symm
 replace own_b7_4 := own_store own_b7_4 hs ne_bm_b7_4.symm
 replace own_b8_12 := own_store own_b8_12 hs ne_bm_b8_12.symm
 replace own_b10_24 := own_store own_b10_24 hs ne_bm_b10_24.symm
 replace D_cn := sa_store D_cn hs (by simp)
 replace D_ci := sa_store D_ci hs (by simp)
 replace D_cn34_24 := sf_store D_cn34_24 hs (by simp)
 replace D_ci34_24 := sf_store D_ci34_24 hs (by simp)
 replace kw := keeps_storeN kw hs (by simp)
 clear hs
 refine zn (hK35 _ _ ?_)
 refine zq fun K38 hK38 => ?_
 refine rg mixed y36 zz36 ?_
 refine .i (v := (.agg #[(.int .u8 ((fv (getV x name)).k)), (.int .i64 ((fv (getV x name)).n)), (.string ((fv (getV x name)).t)), (.slice cn34_24a (((fv (getV x name)).ns).length) cn34_24c), (.slice ci34_24a (((fv (getV x name)).xs).length) ci34_24c)])) (loA (hbs rfl e10) own_b10_24 trivial agg33 sz33 rfl rfl) ?_
 refine .dn fun a39 g W39 y39 zz39 hk hg hV hR hP => ?_
 obtain ⟨e49, -⟩ := hV
 replace e6 := ft hR e6
 replace D_cn := D_cn.ext hk
 replace D_ci := D_ci.ext hk
 replace D_cn34_24 := D_cn34_24.ext hk
 replace D_ci34_24 := D_ci34_24.ext hk
 replace e49 := e49.q
 replace own_bo := own_bo.ext hk
 replace own_bm := own_bm.ext hk
 replace own_b6_2 := own_b6_2.ext hk
 replace own_b7_4 := own_b7_4.ext hk
 replace own_b8_12 := own_b8_12.ext hk
 replace own_b10_24 := own_b10_24.ext hk
 replace kw := kw.x hk
 clear hR hk hg hP
 refine tail_store e6 e49 sz33 rfl own_b6_2 (lbr rfl) (all_cons rfl (all_cons rfl (all_cons rfl (all_cons rfl (all_cons rfl all_nil))))) (fun W40 hs own_b6_2 => ?_)
 have own_b6_2 : Own W40 b6_2 [(.int .u8 ((fv (getV x name)).k)), (.int .i64 ((fv (getV x name)).n)), (.string ((fv (getV x name)).t)), (.slice cn34_24a (((fv (getV x name)).ns).length) cn34_24c), (.slice ci34_24a (((fv (getV x name)).xs).length) ci34_24c)] 33 := own_b6_2
 replace own_bo := own_store own_bo hs ne_bo_b6_2
 replace own_bm := ownM_store own_bm hs ne_bm_b6_2
 replace own_b7_4 := own_store own_b7_4 hs ne_b6_2_b7_4.symm
 replace own_b8_12 := own_store own_b8_12 hs ne_b6_2_b8_12.symm
 replace own_b10_24 := own_store own_b10_24 hs ne_b6_2_b10_24.symm
 replace D_cn := sa_store D_cn hs (by simp)
 replace D_ci := sa_store D_ci hs (by simp)
 replace D_cn34_24 := sf_store D_cn34_24 hs (by simp)
 replace D_ci34_24 := sf_store D_ci34_24 hs (by simp)
 replace kw := keeps_store kw hs lo_b6_2
 clear hs
 refine zn (hK38 _ _ ?_)
 refine wp_ret ?_
 refine retC (v := (.agg #[(.int .u8 ((fv (getV x name)).k)), (.int .i64 ((fv (getV x name)).n)), (.string ((fv (getV x name)).t)), (.slice cn34_24a (((fv (getV x name)).ns).length) cn34_24c), (.slice ci34_24a (((fv (getV x name)).xs).length) ci34_24c)])) rfl zz39 e6 own_b6_2 agg33 sz33 rfl (fun h => by cases h) rfl ⟨_, rfl, kw, ?_⟩
 rw [h1, h3, h2]
 exact ⟨sf_fr (rdV_in (x := (fv (getV x name))) ht_v34_24 D_cn34_24 D_ci34_24 : Rd W40 (SF w [b10_24, b8_12, b7_4, b6_2, bo, bm]) (V.d ((fv (getV x name)))) _), own_bo, own_bm⟩
set_option maxRecDepth 100000 in
theorem takeVD_ok (k : Nat) (n : Int) (t : ByteArray) (cn ci mv : Value) (e : Int) (hE : errK k e ≠ 0) (name : ByteArray) (fv : Value) (w : World) (bo : Nat) (own_bo : Own w bo [.int .u8 k, .int .i64 n, .string t, cn, ci, mv, .int .i64 e] 74) : Calls Try.prog 110 #[.pointer (some ⟨bo, 0, none⟩), .string name, fv] w (Ret w fun u _ => u = .agg #[.int .u8 0, .int .i64 0, .string ⟨#[]⟩, .slice none 0 0, .slice none 0 0]) := by
 refine enter Try.func110 rfl Try.ntmps110 (lbr rfl) fun a0 y0 zz0 harg => ?_
 have e0 : sl a0 0 = (.pointer (some ⟨bo, 0, none⟩)) := harg 0 (lbr rfl)
 have e1 : sl a0 1 = (.string (name)) := harg 1 (lbr rfl)
 have e2 : sl a0 2 = fv := harg 2 (lbr rfl)
 have kw := Keeps.refl All w
 clear harg
 refine zq fun K1 hK1 => ?_
 refine rg mixed y0 zz0 ?_
 refine .alloc z33 ?_
 refine .dn fun a2 g W2 y2 zz2 hk hg hV hR hP => ?_
 obtain ⟨⟨b6_2, e6, hb6, own_b6_2⟩, -⟩ := hV
 have lo_b6_2 : w.heap.size ≤ b6_2 := Nat.le_trans kw.size (hg.lo _ _ hb6)
 have ne_bo_b6_2 : bo ≠ b6_2 := Nat.ne_of_lt (Nat.lt_of_lt_of_le own_bo.lt (hg.lo _ _ hb6))
 have own_b6_2 : Own W2 b6_2 z5C 33 := own_b6_2
 replace e0 := ft hR e0
 replace e1 := ft hR e1
 replace e2 := ft hR e2
 replace own_bo := own_bo.ext hk
 replace kw := kw.x hk
 clear hR hk hg hP hb6
 refine zn (hK1 _ _ ?_)
 refine zq fun K3 hK3 => ?_
 refine rg mixed y2 zz2 ?_
 refine .alloc z33 ?_
 refine .dn fun a4 g W4 y4 zz4 hk hg hV hR hP => ?_
 obtain ⟨⟨b7_4, e7, hb7, own_b7_4⟩, -⟩ := hV
 have lo_b7_4 : w.heap.size ≤ b7_4 := Nat.le_trans kw.size (hg.lo _ _ hb7)
 have ne_bo_b7_4 : bo ≠ b7_4 := Nat.ne_of_lt (Nat.lt_of_lt_of_le own_bo.lt (hg.lo _ _ hb7))
 have ne_b6_2_b7_4 : b6_2 ≠ b7_4 := Nat.ne_of_lt (Nat.lt_of_lt_of_le own_b6_2.lt (hg.lo _ _ hb7))
 have own_b7_4 : Own W4 b7_4 z5C 33 := own_b7_4
 replace e0 := ft hR e0
 replace e1 := ft hR e1
 replace e2 := ft hR e2
 replace e6 := ft hR e6
 replace own_bo := own_bo.ext hk
 replace own_b6_2 := own_b6_2.ext hk
 replace kw := kw.x hk
 clear hR hk hg hP hb7
 refine zn (hK3 _ _ ?_)
 refine zq fun K5 hK5 => ?_
 refine zq fun K6 hK6 => ?_
 refine rg mixed y4 zz4 ?_
 refine .mb rfl e0 ?_
 refine .i (v := (.int .i64 (errK (k : Nat) e))) (sp_call1 (φ1 := Is (.pointer (some ⟨bo, 0, none⟩))) ent24 (hlc rfl) (fun g u1 W hk hgk h1 => by have h1 : u1 = _ := h1; subst u1; exact Err_ok _ _ _ _ _ _ _ W _ (own_bo.ext hk))) ?_
 refine .i (sp_neq (hlc rfl) Has.cst) ?_
 refine .dn fun a7 g W7 y7 zz7 hk hg hV hR hP => ?_
 obtain ⟨e14, -, -, -⟩ := hV
 replace e0 := ft hR e0
 replace e1 := ft hR e1
 replace e2 := ft hR e2
 replace e6 := ft hR e6
 replace e7 := ft hR e7
 replace e14 := e14.q
 replace own_bo := own_bo.ext hk
 replace own_b6_2 := own_b6_2.ext hk
 replace own_b7_4 := own_b7_4.ext hk
 replace kw := kw.x hk
 clear hR hk hg hP
 refine zn (hK6 _ _ ?_)
 refine zc e14 (fun hc => ?_) (fun hc => ?_)
 ·
  refine zq fun K8 hK8 => ?_
  refine rg mixed y7 zz7 ?_
  refine .i (v := (.agg #[(.int .u8 (0)), (.int .i64 (0)), (.string (⟨#[]⟩)), (.slice none 0 0), (.slice none 0 0)])) (loA (hbs rfl e7) own_b7_4 trivial agg33 sz33 rfl rfl) ?_
  refine .dn fun a9 g W9 y9 zz9 hk hg hV hR hP => ?_
  obtain ⟨e15, -⟩ := hV
  replace e6 := ft hR e6
  replace e15 := e15.q
  replace own_bo := own_bo.ext hk
  replace own_b6_2 := own_b6_2.ext hk
  replace own_b7_4 := own_b7_4.ext hk
  replace kw := kw.x hk
  clear hR hk hg hP
  refine tail_store e6 e15 sz33 rfl own_b6_2 (lbr rfl) (all_cons rfl (all_cons rfl (all_cons rfl (all_cons rfl (all_cons rfl all_nil))))) (fun W10 hs own_b6_2 => ?_)
  have own_b6_2 : Own W10 b6_2 z5C 33 := own_b6_2
  replace own_bo := own_store own_bo hs ne_bo_b6_2
  replace own_b7_4 := own_store own_b7_4 hs ne_b6_2_b7_4.symm
  replace kw := keeps_store kw hs lo_b6_2
  clear hs
  refine zn (hK8 _ _ ?_)
  refine wp_ret ?_
  refine retC (v := (.agg #[(.int .u8 (0)), (.int .i64 (0)), (.string (⟨#[]⟩)), (.slice none 0 0), (.slice none 0 0)])) rfl zz9 e6 own_b6_2 agg33 sz33 rfl (fun h => by cases h) rfl ⟨_, rfl, kw, ?_⟩
  exact rfl
 exfalso
 exact hE (by simpa using hc)
end Go.Proofs.Ytnobijngkpflcaa
namespace Go.Proofs.Ytnobijngkpflcaa
open Go.Eng
set_option maxRecDepth 100000 in
theorem Object_ok (x : V) (A : As) (e : Int) (hA : AB 1000000 A) (hx : x.wt ≤ 1073741824) (hxt : x.t.size ≤ maxLen) (name : ByteArray) (most : Int) (w : World) (S : BSet) (cn ci : Value) (bo bm : Nat) (hS : ∀ b o, S b o → Cln o) (hM : ∀ b ∈ [bo, bm], ∀ o, ¬ S b o) (hne : bo ≠ bm) (hv : Rd w S (strsD x.ns) cn) (hu : Rd w S (valsD x.xs) ci) (own_bo : Own w bo [.int .u8 x.k, .int .i64 x.n, .string x.t, cn, ci, .map (some bm), .int .i64 (e)] 74) (own_bm : OwnM w bm A) : Calls Try.prog 47 #[.pointer (some ⟨bo, 0, none⟩), .string name, .int .i64 most] w (RetL w [bo, bm] fun u W => Rd W (Fr w) (V.d (if tkB x e name (obE most) then obV most (getV x name) else ⟨0, 0, ⟨#[]⟩, [], []⟩)) u ∧ Own W bo [.int .u8 x.k, .int .i64 x.n, .string x.t, cn, ci, .map (some bm), .int .i64 (tkE x e name (obE most))] 74 ∧ OwnM W bm (tkA x A e name (obE most))) := by
 obtain ⟨cna, cnc, ev, D_cn⟩ := rdS_out (rd_argM (M := [bo, bm]) hv hM)
 subst ev
 obtain ⟨cia, cic, ev, D_ci⟩ := rdVs_out (rd_argM (M := [bo, bm]) hu hM)
 subst ev
 refine enter Try.func47 rfl Try.ntmps47 (lbr rfl) fun a0 y0 zz0 harg => ?_
 have e0 : sl a0 0 = (.pointer (some ⟨bo, 0, none⟩)) := harg 0 (lbr rfl)
 have e1 : sl a0 1 = (.string (name)) := harg 1 (lbr rfl)
 have e2 : sl a0 2 = (.int .i64 (most)) := harg 2 (lbr rfl)
 have kw := Keeps.refl (fun k => k ∉ [bo, bm]) w
 clear harg
 refine zq fun K1 hK1 => ?_
 refine rg mixed y0 zz0 ?_
 refine .boxOp (v := (.int .i64 (most))) (hbs rfl e2) ?_
 refine .alloc z33 ?_
 refine .dn fun a2 g W2 y2 zz2 hk hg hV hR hP => ?_
 obtain ⟨⟨b6_2, e6, hb6, own_b6_2⟩, ⟨b5_2, e5, hb5, own_b5_2⟩, -⟩ := hV
 have lo_b6_2 : w.heap.size ≤ b6_2 := Nat.le_trans kw.size (hg.lo _ _ hb6)
 have ne_bo_b6_2 : bo ≠ b6_2 := Nat.ne_of_lt (Nat.lt_of_lt_of_le own_bo.lt (hg.lo _ _ hb6))
 have ne_bm_b6_2 : bm ≠ b6_2 := Nat.ne_of_lt (Nat.lt_of_lt_of_le own_bm.lt (hg.lo _ _ hb6))
 have own_b6_2 : Own W2 b6_2 z5C 33 := own_b6_2
 have lo_b5_2 : w.heap.size ≤ b5_2 := Nat.le_trans kw.size (hg.lo _ _ hb5)
 have ne_bo_b5_2 : bo ≠ b5_2 := Nat.ne_of_lt (Nat.lt_of_lt_of_le own_bo.lt (hg.lo _ _ hb5))
 have ne_bm_b5_2 : bm ≠ b5_2 := Nat.ne_of_lt (Nat.lt_of_lt_of_le own_bm.lt (hg.lo _ _ hb5))
 have own_b5_2 : Own W2 b5_2 [(.int .i64 (most))] 3 := own_b5_2
 have ne_b6_2_b5_2 : b6_2 ≠ b5_2 := fun h => by have := hg.inj _ _ _ hb6 (h ▸ hb5); cases this
 replace e0 := ft hR e0
 replace e1 := ft hR e1
 replace D_cn := sa_more D_cn hk [b6_2, b5_2] (in_cons (hg.lo _ _ hb6) (in_cons (hg.lo _ _ hb5) in_nil))
 replace D_ci := sa_more D_ci hk [b6_2, b5_2] (in_cons (hg.lo _ _ hb6) (in_cons (hg.lo _ _ hb5) in_nil))
 replace own_bo := own_bo.ext hk
 replace own_bm := own_bm.ext hk
 replace kw := kw.x hk
 clear hR hk hg hP hb6 hb5
 refine zn (hK1 _ _ ?_)
 refine zq fun K3 hK3 => ?_
 refine wp_reg (fun k => k ∉ [bo, bm]) (Ψ := fun W => Own W bo [(.int .u8 (x.k)), (.int .i64 (x.n)), (.string (x.t)), (.slice cna (x.ns.length) cnc), (.slice cia (x.xs.length) cic), (.map (some bm)), (.int .i64 (e))] 74 ∧ OwnM W bm (A)) mixed y2 zz2 (stE_and stE_own stE_ownM) ⟨own_bo, own_bm⟩ ?_
 refine .mb rfl e0 ?_
 refine .mb rfl e1 ?_
 refine .i (v := (.func (.func 111) #[] #[(.pointer (some ⟨b5_2, 0, none⟩))])) (sp_mkF1 (hbs rfl e5)) ?_
 refine .callL3 (φ1 := Is (.pointer (some ⟨bo, 0, none⟩))) (φ2 := Is (.string (name))) (φ3 := Is (.func (.func 111) #[] #[(.pointer (some ⟨b5_2, 0, none⟩))])) (φ := IsD (Fr W2) (V.d (if tkB x e name (obE most) then obV most (getV x name) else ⟨0, 0, ⟨#[]⟩, [], []⟩))) (Ψ' := fun W => Own W bo [(.int .u8 (x.k)), (.int .i64 (x.n)), (.string (x.t)), (.slice cna (x.ns.length) cnc), (.slice cia (x.xs.length) cic), (.map (some bm)), (.int .i64 (tkE x e name (obE most)))] 74 ∧ OwnM W bm (tkA x A e name (obE most))) ent110 (hlc rfl) (hlc rfl) (hlc rfl) (st_d (sub_frnl (in_cons own_bo.lt (in_cons own_bm.lt in_nil)))) (stE_and stE_own stE_ownM) (fun g u1 u2 u3 W hk hg h1 h2 h3 hP => by have h1 : u1 = _ := h1; subst u1; have h2 : u2 = _ := h2; subst u2; have h3 : u3 = _ := h3; subst u3; exact (takeV_ok (x) (A) (e) hA hx hxt name 111 #[(.pointer (some ⟨b5_2, 0, none⟩))] (obE most) (obV most) W _ _ _ _ _ (sa_cln hS) (sa_notin (by simp)) hne (sa_keepL D_cn hk (by simp)) (sa_keepL D_ci hk (by simp)) hP.1 hP.2 ent111 (fun W2 hk2 Z y v hy hv2 => object1_ok y most W2 _ v b5_2 hv2 (own_keepL (own_keepL own_b5_2 hk (by simp [ne_bo_b5_2.symm, ne_bm_b5_2.symm])) hk2 (by simp [ne_bo_b5_2.symm, ne_bm_b5_2.symm])))).mono (fun _ _ ⟨v, h1, h2, h3, h4⟩ => ⟨v, h1, h2, fresh_d hk hg h3, h4⟩)) ?_
 refine .dn fun a4 g W4 y4 zz4 hk hg hV hR hP => ?_
 obtain ⟨e10, -, -, -, -⟩ := hV
 replace e6 := ft hR e6
 obtain ⟨v10_4, ev⟩ : ∃ v, sl a4 10 = v := ⟨_, rfl⟩
 rw [ev] at e10
 have D_v10_4 : Rd W4 (SF w [b6_2, b5_2, bo, bm]) (V.d (if tkB x e name (obE most) then obV most (getV x name) else ⟨0, 0, ⟨#[]⟩, [], []⟩)) v10_4 := fr_end (M := [b6_2, b5_2, bo, bm]) e10 kw [] in_nil (in_cons own_b6_2.lt (in_cons own_b5_2.lt (in_cons own_bo.lt (in_cons own_bm.lt in_nil))))
 replace e10 := ev; clear ev
 obtain ⟨cn10_4a, cn10_4c, ci10_4a, ci10_4c, ev, ht_v10_4, D_cn10_4, D_ci10_4⟩ := rdV_out D_v10_4
 subst ev; clear D_v10_4
 replace D_cn := sa_keepL D_cn hk (by simp)
 replace D_ci := sa_keepL D_ci hk (by simp)
 replace own_b6_2 := own_keepL own_b6_2 hk (by simp [ne_bo_b6_2.symm, ne_bm_b6_2.symm])
 replace own_b5_2 := own_keepL own_b5_2 hk (by simp [ne_bo_b5_2.symm, ne_bm_b5_2.symm])
 obtain ⟨own_bo, own_bm⟩ := hP
 replace own_bo : Own W4 bo [(.int .u8 (x.k)), (.int .i64 (x.n)), (.string (x.t)), (.slice cna (x.ns.length) cnc), (.slice cia (x.xs.length) cic), (.map (some bm)), (.int .i64 (tkE x e name (obE most)))] 74 := own_bo
 replace own_bm : OwnM W4 bm (tkA x A e name (obE most)) := own_bm
 replace kw := keeps_L kw hk (in_cons (.inr (by simp)) (in_cons (.inr (by simp)) in_nil))
 clear hR hk hg
 refine tail_store e6 e10 sz33 rfl own_b6_2 (lbr rfl) (all_cons rfl (all_cons rfl (all_cons rfl (all_cons rfl (all_cons rfl all_nil))))) (fun W5 hs own_b6_2 => ?_)
 have own_b6_2 : Own W5 b6_2 [(.int .u8 ((if tkB x e name (obE most) then obV most (getV x name) else ⟨0, 0, ⟨#[]⟩, [], []⟩).k)), (.int .i64 ((if tkB x e name (obE most) then obV most (getV x name) else ⟨0, 0, ⟨#[]⟩, [], []⟩).n)), (.string ((if tkB x e name (obE most) then obV most (getV x name) else ⟨0, 0, ⟨#[]⟩, [], []⟩).t)), (.slice cn10_4a (((if tkB x e name (obE most) then obV most (getV x name) else ⟨0, 0, ⟨#[]⟩, [], []⟩).ns).length) cn10_4c), (.slice ci10_4a (((if tkB x e name (obE most) then obV most (getV x name) else ⟨0, 0, ⟨#[]⟩, [], []⟩).xs).length) ci10_4c)] 33 := own_b6_2
 replace own_bo := own_store own_bo hs ne_bo_b6_2
 replace own_bm := ownM_store own_bm hs ne_bm_b6_2
 replace own_b5_2 := own_store own_b5_2 hs ne_b6_2_b5_2.symm
 replace D_cn := sa_store D_cn hs (by simp)
 replace D_ci := sa_store D_ci hs (by simp)
 replace D_cn10_4 := sf_store D_cn10_4 hs (by simp)
 replace D_ci10_4 := sf_store D_ci10_4 hs (by simp)
 replace kw := keeps_store kw hs lo_b6_2
 clear hs
 refine zn (hK3 _ _ ?_)
 refine wp_ret ?_
 refine retC (v := (.agg #[(.int .u8 ((if tkB x e name (obE most) then obV most (getV x name) else ⟨0, 0, ⟨#[]⟩, [], []⟩).k)), (.int .i64 ((if tkB x e name (obE most) then obV most (getV x name) else ⟨0, 0, ⟨#[]⟩, [], []⟩).n)), (.string ((if tkB x e name (obE most) then obV most (getV x name) else ⟨0, 0, ⟨#[]⟩, [], []⟩).t)), (.slice cn10_4a (((if tkB x e name (obE most) then obV most (getV x name) else ⟨0, 0, ⟨#[]⟩, [], []⟩).ns).length) cn10_4c), (.slice ci10_4a (((if tkB x e name (obE most) then obV most (getV x name) else ⟨0, 0, ⟨#[]⟩, [], []⟩).xs).length) ci10_4c)])) rfl zz4 e6 own_b6_2 agg33 sz33 rfl (fun h => by cases h) rfl ⟨_, rfl, kw, ?_⟩
 exact ⟨sf_fr (rdV_in (x := (if tkB x e name (obE most) then obV most (getV x name) else ⟨0, 0, ⟨#[]⟩, [], []⟩)) ht_v10_4 D_cn10_4 D_ci10_4 : Rd W5 (SF w [b6_2, b5_2, bo, bm]) (V.d ((if tkB x e name (obE most) then obV most (getV x name) else ⟨0, 0, ⟨#[]⟩, [], []⟩))) _), own_bo, own_bm⟩
set_option maxRecDepth 100000 in
theorem Any_ok (x : V) (A : As) (e : Int) (hA : AB 1000000 A) (hx : x.wt ≤ 1073741824) (hxt : x.t.size ≤ maxLen) (name : ByteArray) (w : World) (S : BSet) (cn ci : Value) (bo bm : Nat) (hS : ∀ b o, S b o → Cln o) (hM : ∀ b ∈ [bo, bm], ∀ o, ¬ S b o) (hne : bo ≠ bm) (hv : Rd w S (strsD x.ns) cn) (hu : Rd w S (valsD x.xs) ci) (own_bo : Own w bo [.int .u8 x.k, .int .i64 x.n, .string x.t, cn, ci, .map (some bm), .int .i64 (e)] 74) (own_bm : OwnM w bm A) : Calls Try.prog 48 #[.pointer (some ⟨bo, 0, none⟩), .string name] w (RetL w [bo, bm] fun u W => Rd W (Fr w) (V.d (if tkB x e name anyE then getV x name else ⟨0, 0, ⟨#[]⟩, [], []⟩)) u ∧ Own W bo [.int .u8 x.k, .int .i64 x.n, .string x.t, cn, ci, .map (some bm), .int .i64 (tkE x e name anyE)] 74 ∧ OwnM W bm (tkA x A e name anyE)) := by
 obtain ⟨cna, cnc, ev, D_cn⟩ := rdS_out (rd_argM (M := [bo, bm]) hv hM)
 subst ev
 obtain ⟨cia, cic, ev, D_ci⟩ := rdVs_out (rd_argM (M := [bo, bm]) hu hM)
 subst ev
 refine enter Try.func48 rfl Try.ntmps48 (lbr rfl) fun a0 y0 zz0 harg => ?_
 have e0 : sl a0 0 = (.pointer (some ⟨bo, 0, none⟩)) := harg 0 (lbr rfl)
 have e1 : sl a0 1 = (.string (name)) := harg 1 (lbr rfl)
 have kw := Keeps.refl (fun k => k ∉ [bo, bm]) w
 clear harg
 refine zq fun K1 hK1 => ?_
 refine rg mixed y0 zz0 ?_
 refine .alloc z33 ?_
 refine .dn fun a2 g W2 y2 zz2 hk hg hV hR hP => ?_
 obtain ⟨⟨b4_2, e4, hb4, own_b4_2⟩, -⟩ := hV
 have lo_b4_2 : w.heap.size ≤ b4_2 := Nat.le_trans kw.size (hg.lo _ _ hb4)
 have ne_bo_b4_2 : bo ≠ b4_2 := Nat.ne_of_lt (Nat.lt_of_lt_of_le own_bo.lt (hg.lo _ _ hb4))
 have ne_bm_b4_2 : bm ≠ b4_2 := Nat.ne_of_lt (Nat.lt_of_lt_of_le own_bm.lt (hg.lo _ _ hb4))
 have own_b4_2 : Own W2 b4_2 z5C 33 := own_b4_2
 replace e0 := ft hR e0
 replace e1 := ft hR e1
 replace D_cn := sa_more D_cn hk [b4_2] (in_cons (hg.lo _ _ hb4) in_nil)
 replace D_ci := sa_more D_ci hk [b4_2] (in_cons (hg.lo _ _ hb4) in_nil)
 replace own_bo := own_bo.ext hk
 replace own_bm := own_bm.ext hk
 replace kw := kw.x hk
 clear hR hk hg hP hb4
 refine zn (hK1 _ _ ?_)
 refine zq fun K3 hK3 => ?_
 refine wp_reg (fun k => k ∉ [bo, bm]) (Ψ := fun W => Own W bo [(.int .u8 (x.k)), (.int .i64 (x.n)), (.string (x.t)), (.slice cna (x.ns.length) cnc), (.slice cia (x.xs.length) cic), (.map (some bm)), (.int .i64 (e))] 74 ∧ OwnM W bm (A)) mixed y2 zz2 (stE_and stE_own stE_ownM) ⟨own_bo, own_bm⟩ ?_
 refine .mb rfl e0 ?_
 refine .mb rfl e1 ?_
 refine .callL3 (φ1 := Is (.pointer (some ⟨bo, 0, none⟩))) (φ2 := Is (.string (name))) (φ3 := Is (.func (.func 112) #[] #[])) (φ := IsD (Fr W2) (V.d (if tkB x e name (anyE) then getV x name else ⟨0, 0, ⟨#[]⟩, [], []⟩))) (Ψ' := fun W => Own W bo [(.int .u8 (x.k)), (.int .i64 (x.n)), (.string (x.t)), (.slice cna (x.ns.length) cnc), (.slice cia (x.xs.length) cic), (.map (some bm)), (.int .i64 (tkE x e name anyE))] 74 ∧ OwnM W bm (tkA x A e name anyE)) ent110 (hlc rfl) (hlc rfl) Has.fn (st_d (sub_frnl (in_cons own_bo.lt (in_cons own_bm.lt in_nil)))) (stE_and stE_own stE_ownM) (fun g u1 u2 u3 W hk hg h1 h2 h3 hP => by have h1 : u1 = _ := h1; subst u1; have h2 : u2 = _ := h2; subst u2; have h3 : u3 = _ := h3; subst u3; exact (takeV_ok (x) (A) (e) hA hx hxt name 112 #[] (anyE) (fun v => v) W _ _ _ _ _ (sa_cln hS) (sa_notin (by simp)) hne (sa_keepL D_cn hk (by simp)) (sa_keepL D_ci hk (by simp)) hP.1 hP.2 ent112 (fun W2 hk2 Z y v hy hv2 => any1_ok y W2 _ v hv2)).mono (fun _ _ ⟨v, h1, h2, h3, h4⟩ => ⟨v, h1, h2, fresh_d hk hg h3, h4⟩)) ?_
 refine .dn fun a4 g W4 y4 zz4 hk hg hV hR hP => ?_
 obtain ⟨e7, -, -, -⟩ := hV
 replace e4 := ft hR e4
 obtain ⟨v7_4, ev⟩ : ∃ v, sl a4 7 = v := ⟨_, rfl⟩
 rw [ev] at e7
 have D_v7_4 : Rd W4 (SF w [b4_2, bo, bm]) (V.d (if tkB x e name (anyE) then getV x name else ⟨0, 0, ⟨#[]⟩, [], []⟩)) v7_4 := fr_end (M := [b4_2, bo, bm]) e7 kw [] in_nil (in_cons own_b4_2.lt (in_cons own_bo.lt (in_cons own_bm.lt in_nil)))
 replace e7 := ev; clear ev
 obtain ⟨cn7_4a, cn7_4c, ci7_4a, ci7_4c, ev, ht_v7_4, D_cn7_4, D_ci7_4⟩ := rdV_out D_v7_4
 subst ev; clear D_v7_4
 replace D_cn := sa_keepL D_cn hk (by simp)
 replace D_ci := sa_keepL D_ci hk (by simp)
 replace own_b4_2 := own_keepL own_b4_2 hk (by simp [ne_bo_b4_2.symm, ne_bm_b4_2.symm])
 obtain ⟨own_bo, own_bm⟩ := hP
 replace own_bo : Own W4 bo [(.int .u8 (x.k)), (.int .i64 (x.n)), (.string (x.t)), (.slice cna (x.ns.length) cnc), (.slice cia (x.xs.length) cic), (.map (some bm)), (.int .i64 (tkE x e name anyE))] 74 := own_bo
 replace own_bm : OwnM W4 bm (tkA x A e name anyE) := own_bm
 replace kw := keeps_L kw hk (in_cons (.inr (by simp)) (in_cons (.inr (by simp)) in_nil))
 clear hR hk hg
 refine tail_store e4 e7 sz33 rfl own_b4_2 (lbr rfl) (all_cons rfl (all_cons rfl (all_cons rfl (all_cons rfl (all_cons rfl all_nil))))) (fun W5 hs own_b4_2 => ?_)
 have own_b4_2 : Own W5 b4_2 [(.int .u8 ((if tkB x e name (anyE) then getV x name else ⟨0, 0, ⟨#[]⟩, [], []⟩).k)), (.int .i64 ((if tkB x e name (anyE) then getV x name else ⟨0, 0, ⟨#[]⟩, [], []⟩).n)), (.string ((if tkB x e name (anyE) then getV x name else ⟨0, 0, ⟨#[]⟩, [], []⟩).t)), (.slice cn7_4a (((if tkB x e name (anyE) then getV x name else ⟨0, 0, ⟨#[]⟩, [], []⟩).ns).length) cn7_4c), (.slice ci7_4a (((if tkB x e name (anyE) then getV x name else ⟨0, 0, ⟨#[]⟩, [], []⟩).xs).length) ci7_4c)] 33 := own_b4_2
 replace own_bo := own_store own_bo hs ne_bo_b4_2
 replace own_bm := ownM_store own_bm hs ne_bm_b4_2
 replace D_cn := sa_store D_cn hs (by simp)
 replace D_ci := sa_store D_ci hs (by simp)
 replace D_cn7_4 := sf_store D_cn7_4 hs (by simp)
 replace D_ci7_4 := sf_store D_ci7_4 hs (by simp)
 replace kw := keeps_store kw hs lo_b4_2
 clear hs
 refine zn (hK3 _ _ ?_)
 refine wp_ret ?_
 refine retC (v := (.agg #[(.int .u8 ((if tkB x e name (anyE) then getV x name else ⟨0, 0, ⟨#[]⟩, [], []⟩).k)), (.int .i64 ((if tkB x e name (anyE) then getV x name else ⟨0, 0, ⟨#[]⟩, [], []⟩).n)), (.string ((if tkB x e name (anyE) then getV x name else ⟨0, 0, ⟨#[]⟩, [], []⟩).t)), (.slice cn7_4a (((if tkB x e name (anyE) then getV x name else ⟨0, 0, ⟨#[]⟩, [], []⟩).ns).length) cn7_4c), (.slice ci7_4a (((if tkB x e name (anyE) then getV x name else ⟨0, 0, ⟨#[]⟩, [], []⟩).xs).length) ci7_4c)])) rfl zz4 e4 own_b4_2 agg33 sz33 rfl (fun h => by cases h) rfl ⟨_, rfl, kw, ?_⟩
 exact ⟨sf_fr (rdV_in (x := (if tkB x e name (anyE) then getV x name else ⟨0, 0, ⟨#[]⟩, [], []⟩)) ht_v7_4 D_cn7_4 D_ci7_4 : Rd W5 (SF w [b4_2, bo, bm]) (V.d ((if tkB x e name (anyE) then getV x name else ⟨0, 0, ⟨#[]⟩, [], []⟩))) _), own_bo, own_bm⟩
set_option maxRecDepth 100000 in
theorem ObjectD_ok (k : Nat) (n : Int) (t : ByteArray) (cn ci mv : Value) (e : Int) (hE : errK k e ≠ 0) (name : ByteArray) (most : Int) (w : World) (bo : Nat) (own_bo : Own w bo [.int .u8 k, .int .i64 n, .string t, cn, ci, mv, .int .i64 e] 74) : Calls Try.prog 47 #[.pointer (some ⟨bo, 0, none⟩), .string name, .int .i64 most] w (Ret w fun u _ => u = .agg #[.int .u8 0, .int .i64 0, .string ⟨#[]⟩, .slice none 0 0, .slice none 0 0]) := by
 refine enter Try.func47 rfl Try.ntmps47 (lbr rfl) fun a0 y0 zz0 harg => ?_
 have e0 : sl a0 0 = (.pointer (some ⟨bo, 0, none⟩)) := harg 0 (lbr rfl)
 have e1 : sl a0 1 = (.string (name)) := harg 1 (lbr rfl)
 have e2 : sl a0 2 = (.int .i64 (most)) := harg 2 (lbr rfl)
 have kw := Keeps.refl All w
 clear harg
 refine zq fun K1 hK1 => ?_
 refine rg mixed y0 zz0 ?_
 refine .boxOp (v := (.int .i64 (most))) (hbs rfl e2) ?_
 refine .alloc z33 ?_
 refine .dn fun a2 g W2 y2 zz2 hk hg hV hR hP => ?_
 obtain ⟨⟨b6_2, e6, hb6, own_b6_2⟩, ⟨b5_2, e5, hb5, own_b5_2⟩, -⟩ := hV
 have lo_b6_2 : w.heap.size ≤ b6_2 := Nat.le_trans kw.size (hg.lo _ _ hb6)
 have ne_bo_b6_2 : bo ≠ b6_2 := Nat.ne_of_lt (Nat.lt_of_lt_of_le own_bo.lt (hg.lo _ _ hb6))
 have own_b6_2 : Own W2 b6_2 z5C 33 := own_b6_2
 have lo_b5_2 : w.heap.size ≤ b5_2 := Nat.le_trans kw.size (hg.lo _ _ hb5)
 have ne_bo_b5_2 : bo ≠ b5_2 := Nat.ne_of_lt (Nat.lt_of_lt_of_le own_bo.lt (hg.lo _ _ hb5))
 have own_b5_2 : Own W2 b5_2 [(.int .i64 (most))] 3 := own_b5_2
 have ne_b6_2_b5_2 : b6_2 ≠ b5_2 := fun h => by have := hg.inj _ _ _ hb6 (h ▸ hb5); cases this
 replace e0 := ft hR e0
 replace e1 := ft hR e1
 replace own_bo := own_bo.ext hk
 replace kw := kw.x hk
 clear hR hk hg hP hb6 hb5
 refine zn (hK1 _ _ ?_)
 refine zq fun K3 hK3 => ?_
 refine rg mixed y2 zz2 ?_
 refine .mb rfl e0 ?_
 refine .mb rfl e1 ?_
 refine .i (v := (.func (.func 111) #[] #[(.pointer (some ⟨b5_2, 0, none⟩))])) (sp_mkF1 (hbs rfl e5)) ?_
 refine .i (v := (.agg #[(.int .u8 (0)), (.int .i64 (0)), (.string (⟨#[]⟩)), (.slice none 0 0), (.slice none 0 0)])) (sp_call3 (φ1 := Is (.pointer (some ⟨bo, 0, none⟩))) (φ2 := Is (.string (name))) (φ3 := Is (.func (.func 111) #[] #[(.pointer (some ⟨b5_2, 0, none⟩))])) ent110 (hlc rfl) (hlc rfl) (hlc rfl) (fun g u1 u2 u3 W hk hgk h1 h2 h3 => by have h1 : u1 = _ := h1; subst u1; have h2 : u2 = _ := h2; subst u2; have h3 : u3 = _ := h3; subst u3; exact takeVD_ok _ _ _ _ _ _ _ hE _ _ W _ (own_bo.ext hk))) ?_
 refine .dn fun a4 g W4 y4 zz4 hk hg hV hR hP => ?_
 obtain ⟨e10, -, -, -, -⟩ := hV
 replace e6 := ft hR e6
 replace e10 := e10.q
 replace own_bo := own_bo.ext hk
 replace own_b6_2 := own_b6_2.ext hk
 replace own_b5_2 := own_b5_2.ext hk
 replace kw := kw.x hk
 clear hR hk hg hP
 refine tail_store e6 e10 sz33 rfl own_b6_2 (lbr rfl) (all_cons rfl (all_cons rfl (all_cons rfl (all_cons rfl (all_cons rfl all_nil))))) (fun W5 hs own_b6_2 => ?_)
 have own_b6_2 : Own W5 b6_2 z5C 33 := own_b6_2
 replace own_bo := own_store own_bo hs ne_bo_b6_2
 replace own_b5_2 := own_store own_b5_2 hs ne_b6_2_b5_2.symm
 replace kw := keeps_store kw hs lo_b6_2
 clear hs
 refine zn (hK3 _ _ ?_)
 refine wp_ret ?_
 refine retC (v := (.agg #[(.int .u8 (0)), (.int .i64 (0)), (.string (⟨#[]⟩)), (.slice none 0 0), (.slice none 0 0)])) rfl zz4 e6 own_b6_2 agg33 sz33 rfl (fun h => by cases h) rfl ⟨_, rfl, kw, ?_⟩
 exact rfl
set_option maxRecDepth 100000 in
theorem AnyD_ok (k : Nat) (n : Int) (t : ByteArray) (cn ci mv : Value) (e : Int) (hE : errK k e ≠ 0) (name : ByteArray) (w : World) (bo : Nat) (own_bo : Own w bo [.int .u8 k, .int .i64 n, .string t, cn, ci, mv, .int .i64 e] 74) : Calls Try.prog 48 #[.pointer (some ⟨bo, 0, none⟩), .string name] w (Ret w fun u _ => u = .agg #[.int .u8 0, .int .i64 0, .string ⟨#[]⟩, .slice none 0 0, .slice none 0 0]) := by
 refine enter Try.func48 rfl Try.ntmps48 (lbr rfl) fun a0 y0 zz0 harg => ?_
 have e0 : sl a0 0 = (.pointer (some ⟨bo, 0, none⟩)) := harg 0 (lbr rfl)
 have e1 : sl a0 1 = (.string (name)) := harg 1 (lbr rfl)
 have kw := Keeps.refl All w
 clear harg
 refine zq fun K1 hK1 => ?_
 refine rg mixed y0 zz0 ?_
 refine .alloc z33 ?_
 refine .dn fun a2 g W2 y2 zz2 hk hg hV hR hP => ?_
 obtain ⟨⟨b4_2, e4, hb4, own_b4_2⟩, -⟩ := hV
 have lo_b4_2 : w.heap.size ≤ b4_2 := Nat.le_trans kw.size (hg.lo _ _ hb4)
 have ne_bo_b4_2 : bo ≠ b4_2 := Nat.ne_of_lt (Nat.lt_of_lt_of_le own_bo.lt (hg.lo _ _ hb4))
 have own_b4_2 : Own W2 b4_2 z5C 33 := own_b4_2
 replace e0 := ft hR e0
 replace e1 := ft hR e1
 replace own_bo := own_bo.ext hk
 replace kw := kw.x hk
 clear hR hk hg hP hb4
 refine zn (hK1 _ _ ?_)
 refine zq fun K3 hK3 => ?_
 refine rg mixed y2 zz2 ?_
 refine .mb rfl e0 ?_
 refine .mb rfl e1 ?_
 refine .i (v := (.agg #[(.int .u8 (0)), (.int .i64 (0)), (.string (⟨#[]⟩)), (.slice none 0 0), (.slice none 0 0)])) (sp_call3 (φ1 := Is (.pointer (some ⟨bo, 0, none⟩))) (φ2 := Is (.string (name))) (φ3 := Is (.func (.func 112) #[] #[])) ent110 (hlc rfl) (hlc rfl) Has.fn (fun g u1 u2 u3 W hk hgk h1 h2 h3 => by have h1 : u1 = _ := h1; subst u1; have h2 : u2 = _ := h2; subst u2; have h3 : u3 = _ := h3; subst u3; exact takeVD_ok _ _ _ _ _ _ _ hE _ _ W _ (own_bo.ext hk))) ?_
 refine .dn fun a4 g W4 y4 zz4 hk hg hV hR hP => ?_
 obtain ⟨e7, -, -, -⟩ := hV
 replace e4 := ft hR e4
 replace e7 := e7.q
 replace own_bo := own_bo.ext hk
 replace own_b4_2 := own_b4_2.ext hk
 replace kw := kw.x hk
 clear hR hk hg hP
 refine tail_store e4 e7 sz33 rfl own_b4_2 (lbr rfl) (all_cons rfl (all_cons rfl (all_cons rfl (all_cons rfl (all_cons rfl all_nil))))) (fun W5 hs own_b4_2 => ?_)
 have own_b4_2 : Own W5 b4_2 z5C 33 := own_b4_2
 replace own_bo := own_store own_bo hs ne_bo_b4_2
 replace kw := keeps_store kw hs lo_b4_2
 clear hs
 refine zn (hK3 _ _ ?_)
 refine wp_ret ?_
 refine retC (v := (.agg #[(.int .u8 (0)), (.int .i64 (0)), (.string (⟨#[]⟩)), (.slice none 0 0), (.slice none 0 0)])) rfl zz4 e4 own_b4_2 agg33 sz33 rfl (fun h => by cases h) rfl ⟨_, rfl, kw, ?_⟩
 exact rfl
set_option maxRecDepth 100000 in
theorem HasO_ok (x : V) (e : Int) (hx : x.wt ≤ 1073741824) (hxt : x.t.size ≤ maxLen) (name : ByteArray) (w : World) (S : BSet) (cn ci mv : Value) (bo : Nat) (hS : ∀ b o, S b o → Cln o) (hv : Rd w S (strsD x.ns) cn) (hu : Rd w S (valsD x.xs) ci) (own_bo : Own w bo [.int .u8 x.k, .int .i64 x.n, .string x.t, cn, ci, mv, .int .i64 e] 74) : Calls Try.prog 42 #[.pointer (some ⟨bo, 0, none⟩), .string name] w (Ret w fun u _ => u = .bool (decide (errK x.k e = 0) && getB x name)) := by
 have hwx := wt_eq x
 have hwl := wts_len x.xs
 have hwn := wtN_len x.ns
 obtain ⟨cna, cnc, ev, D_cn⟩ := rdS_out (rd_arg hv)
 subst ev
 obtain ⟨cia, cic, ev, D_ci⟩ := rdVs_out (rd_arg hu)
 subst ev
 refine enter Try.func42 rfl Try.ntmps42 (lbr rfl) fun a0 y0 zz0 harg => ?_
 have e0 : sl a0 0 = (.pointer (some ⟨bo, 0, none⟩)) := harg 0 (lbr rfl)
 have e1 : sl a0 1 = (.string (name)) := harg 1 (lbr rfl)
 have kw := Keeps.refl All w
 clear harg
 refine zq fun K1 hK1 => ?_
 refine rg mixed y0 zz0 ?_
 refine .ac ?_
 refine .dn fun a2 g W2 y2 zz2 hk hg hV hR hP => ?_
 obtain ⟨-, -⟩ := hV
 replace e0 := ft hR e0
 replace e1 := ft hR e1
 replace D_cn := D_cn.ext hk
 replace D_ci := D_ci.ext hk
 replace own_bo := own_bo.ext hk
 replace kw := kw.x hk
 clear hR hk hg hP
 refine zn (hK1 _ _ ?_)
 refine zq fun K3 hK3 => ?_
 refine zq fun K4 hK4 => ?_
 refine rg mixed y2 zz2 ?_
 refine .mb rfl e0 ?_
 refine .i (v := (.int .i64 (errK x.k e))) (sp_call1 (φ1 := Is (.pointer (some ⟨bo, 0, none⟩))) ent24 (hlc rfl) (fun g u1 W hk hgk h1 => by have h1 : u1 = _ := h1; subst u1; exact Err_ok _ _ _ _ _ _ _ W _ (own_bo.ext hk))) ?_
 refine .i (sp_neq (hlc rfl) Has.cst) ?_
 refine .dn fun a5 g W5 y5 zz5 hk hg hV hR hP => ?_
 obtain ⟨e9, -, -, -⟩ := hV
 replace e0 := ft hR e0
 replace e1 := ft hR e1
 replace D_cn := D_cn.ext hk
 replace D_ci := D_ci.ext hk
 replace e9 := e9.q
 replace own_bo := own_bo.ext hk
 replace kw := kw.x hk
 clear hR hk hg hP
 refine zn (hK4 _ _ ?_)
 refine zc e9 (fun hc => ?_) (fun hc => ?_)
 ·
  have hE : errK x.k e ≠ 0 := by simpa using hc
  have hf : (decide (errK x.k e = 0) && getB x name) = false := by simp [hE]
  refine zq fun K6 hK6 => ?_
  refine rg mixed y5 zz5 ?_
  refine .ac ?_
  refine .dn fun a7 g W7 y7 zz7 hk hg hV hR hP => ?_
  obtain ⟨e4, -⟩ := hV
  replace D_cn := D_cn.ext hk
  replace D_ci := D_ci.ext hk
  replace e4 := e4.q
  replace own_bo := own_bo.ext hk
  replace kw := kw.x hk
  clear hR hk hg hP
  refine zn (hK6 _ _ ?_)
  refine wp_ret ?_
  refine ret1 rfl zz7 e4 ⟨_, rfl, kw, ?_⟩
  rw [hf]
 have hE : errK x.k e = 0 := by simpa using hc
 have hf : (decide (errK x.k e = 0) && getB x name) = getB x name := by simp [hE]
 refine wp_skip (hK3 _ _ ?_)
 refine zq fun K8 hK8 => ?_
 refine rg mixed y5 zz5 ?_
 refine .mb rfl e0 ?_
 refine .i (sp_nilP (hlc rfl)) ?_
 refine .i (fo 0 (hlc rfl) Try.underlying74 rfl sz33 rfl) ?_
 refine .i (v := (.agg #[(.int .u8 (x.k)), (.int .i64 (x.n)), (.string (x.t)), (.slice cna (x.ns.length) cnc), (.slice cia (x.xs.length) cic)])) (loA (hlc rfl) own_bo trivial agg33 sz33 rfl rfl) ?_
 refine .mb rfl e1 ?_
 refine .op (φ := IsT (IsD (Fr W5) (V.d (getV (x) name))) (Is (.bool (getB (x) name)))) (st_t (st_d sub_all) (st_is _)) (sp_call2 (φ1 := IsD (SA w S []) (V.d (x))) (φ2 := Is (.string (name))) ent101 ((hlc rfl).dat (rdV_in (x := x) hxt D_cn D_ci : Rd W5 (SA w S []) (V.d (x)) _) sub_all) (hlc rfl) (fun g u1 u2 W hk hgk h1 h2 => by have h2 : u2 = _ := h2; subst u2; exact (Get_ok (x) (name) (by omega) W _ _ (fun b o h => sa_cln hS b o h.1) h1).mono (fun _ _ ⟨v, h1, h2, r1, h3, h4⟩ => ⟨v, h1, h2, r1, _, h3, fresh_d hk hgk h4, rfl⟩))) ?_
 refine .op (φ := IsT (IsD (Fr W5) (V.d (getV (x) name))) (Is (.bool (getB (x) name)))) (st_t (st_d sub_all) (st_is _)) (sp_move (hlc rfl)) ?_
 refine .da (X := Fr W5) (e := V.d (getV (x) name)) (sp_ext2 (hlc rfl) rfl) ?_
 refine .i (v := (.bool (getB (x) name))) (sp_ext2' (hlc rfl) rfl) ?_
 refine .alloc z33 ?_
 refine .dn fun a9 g W9 y9 zz9 hk hg hV hR hP => ?_
 obtain ⟨⟨b5_9, e5, hb5, own_b5_9⟩, e18, e17, -, -, -, -, -, -, -, -⟩ := hV
 have lo_b5_9 : w.heap.size ≤ b5_9 := Nat.le_trans kw.size (hg.lo _ _ hb5)
 have ne_bo_b5_9 : bo ≠ b5_9 := Nat.ne_of_lt (Nat.lt_of_lt_of_le own_bo.lt (hg.lo _ _ hb5))
 have own_b5_9 : Own W9 b5_9 z5C 33 := own_b5_9
 replace D_cn := sa_more D_cn hk [b5_9] (in_cons (hg.lo _ _ hb5) in_nil)
 replace D_ci := sa_more D_ci hk [b5_9] (in_cons (hg.lo _ _ hb5) in_nil)
 obtain ⟨v17_9, ev⟩ : ∃ v, sl a9 17 = v := ⟨_, rfl⟩
 rw [ev] at e17
 have D_v17_9 : Rd W9 (SF w [b5_9]) (V.d (getV (x) name)) v17_9 := fr_end (M := []) e17 kw [b5_9] (in_cons ⟨_, hb5⟩ in_nil) in_nil
 replace e17 := ev; clear ev
 obtain ⟨cn17_9a, cn17_9c, ci17_9a, ci17_9c, ev, ht_v17_9, D_cn17_9, D_ci17_9⟩ := rdV_out D_v17_9
 subst ev; clear D_v17_9
 replace e18 := e18.q
 replace own_bo := own_bo.ext hk
 replace kw := kw.x hk
 clear hR hk hg hP hb5
 refine tail_store e5 e17 sz33 rfl own_b5_9 (lbr rfl) (all_cons rfl (all_cons rfl (all_cons rfl (all_cons rfl (all_cons rfl all_nil))))) (fun W10 hs own_b5_9 => ?_)
 have own_b5_9 : Own W10 b5_9 [(.int .u8 ((getV (x) name).k)), (.int .i64 ((getV (x) name).n)), (.string ((getV (x) name).t)), (.slice cn17_9a (((getV (x) name).ns).length) cn17_9c), (.slice ci17_9a (((getV (x) name).xs).length) ci17_9c)] 33 := own_b5_9
 replace own_bo := own_store own_bo hs ne_bo_b5_9
 replace D_cn := sa_store D_cn hs (by simp)
 replace D_ci := sa_store D_ci hs (by simp)
 replace D_cn17_9 := sf_store D_cn17_9 hs (by simp)
 replace D_ci17_9 := sf_store D_ci17_9 hs (by simp)
 replace kw := keeps_store kw hs lo_b5_9
 clear hs
 refine tail_assign (v := (.bool (getB (x) name))) e18 (by rw [y9]; exact Nat.le_of_ble_eq_true rfl) (fun a11 y11 zz11 e6 hr => ?_)
 replace y11 := y11.trans y9; replace zz11 := zz11.trans zz9
 replace e5 := (hr 5 (by decide)).trans e5
 replace e17 := (hr 17 (by decide)).trans e17
 replace e18 := (hr 18 (by decide)).trans e18
 clear hr
 refine zn (hK8 _ _ ?_)
 refine zq fun K12 hK12 => ?_
 refine rg mixed y11 zz11 ?_
 refine .mb rfl e6 ?_
 refine .al rfl ?_
 refine .dn fun a13 g W13 y13 zz13 hk hg hV hR hP => ?_
 obtain ⟨e4, -, -⟩ := hV
 replace D_cn := D_cn.ext hk
 replace D_ci := D_ci.ext hk
 replace e4 := e4.q
 replace own_bo := own_bo.ext hk
 replace own_b5_9 := own_b5_9.ext hk
 replace kw := kw.x hk
 clear hR hk hg hP
 refine zn (hK12 _ _ ?_)
 refine wp_ret ?_
 refine ret1 rfl zz13 e4 ⟨_, rfl, kw, ?_⟩
 rw [hf]
set_option maxRecDepth 100000 in
theorem HasOD_ok (k : Nat) (n : Int) (t : ByteArray) (cn ci mv : Value) (e : Int) (hE : errK k e ≠ 0) (name : ByteArray) (w : World) (bo : Nat) (own_bo : Own w bo [.int .u8 k, .int .i64 n, .string t, cn, ci, mv, .int .i64 e] 74) : Calls Try.prog 42 #[.pointer (some ⟨bo, 0, none⟩), .string name] w (Ret w fun u _ => u = .bool false) := by
 refine enter Try.func42 rfl Try.ntmps42 (lbr rfl) fun a0 y0 zz0 harg => ?_
 have e0 : sl a0 0 = (.pointer (some ⟨bo, 0, none⟩)) := harg 0 (lbr rfl)
 have e1 : sl a0 1 = (.string (name)) := harg 1 (lbr rfl)
 have kw := Keeps.refl All w
 clear harg
 refine zq fun K1 hK1 => ?_
 refine rg mixed y0 zz0 ?_
 refine .ac ?_
 refine .dn fun a2 g W2 y2 zz2 hk hg hV hR hP => ?_
 obtain ⟨-, -⟩ := hV
 replace e0 := ft hR e0
 replace e1 := ft hR e1
 replace own_bo := own_bo.ext hk
 replace kw := kw.x hk
 clear hR hk hg hP
 refine zn (hK1 _ _ ?_)
 refine zq fun K3 hK3 => ?_
 refine zq fun K4 hK4 => ?_
 refine rg mixed y2 zz2 ?_
 refine .mb rfl e0 ?_
 refine .i (v := (.int .i64 (errK (k : Nat) e))) (sp_call1 (φ1 := Is (.pointer (some ⟨bo, 0, none⟩))) ent24 (hlc rfl) (fun g u1 W hk hgk h1 => by have h1 : u1 = _ := h1; subst u1; exact Err_ok _ _ _ _ _ _ _ W _ (own_bo.ext hk))) ?_
 refine .i (sp_neq (hlc rfl) Has.cst) ?_
 refine .dn fun a5 g W5 y5 zz5 hk hg hV hR hP => ?_
 obtain ⟨e9, -, -, -⟩ := hV
 replace e0 := ft hR e0
 replace e1 := ft hR e1
 replace e9 := e9.q
 replace own_bo := own_bo.ext hk
 replace kw := kw.x hk
 clear hR hk hg hP
 refine zn (hK4 _ _ ?_)
 refine zc e9 (fun hc => ?_) (fun hc => ?_)
 ·
  refine zq fun K6 hK6 => ?_
  refine rg mixed y5 zz5 ?_
  refine .ac ?_
  refine .dn fun a7 g W7 y7 zz7 hk hg hV hR hP => ?_
  obtain ⟨e4, -⟩ := hV
  replace e4 := e4.q
  replace own_bo := own_bo.ext hk
  replace kw := kw.x hk
  clear hR hk hg hP
  refine zn (hK6 _ _ ?_)
  refine wp_ret ?_
  refine ret1 rfl zz7 e4 ⟨_, rfl, kw, ?_⟩
  exact rfl
 exfalso
 exact hE (by simpa using hc)
end Go.Proofs.Ytnobijngkpflcaa
namespace Go.Eng
structure Ro where
  v : V
  e : Int
def Ro.d (a : Ro) : D := .agg [a.v.d, .int .i64 a.e]
def ung : Nat → List Oper → List Oper
  | 0, l => l
  | _ + 1, [] => []
  | n + 1, o :: l => { o with guard := none } :: ung n l
theorem obrun_ung {P : Program} {ops : Array Oper} {o : Oper} {a : Act} {W : World} {R : Value → World → Prop} {gi t : Nat} {want : Bool} (hg : o.guard = some (gi, want)) (ht : (ops[gi]?).bind (·.dst) = some t) (hs : sl a t = .bool want)
    (h : ObRun P ops { o with guard := none } a W R) : ObRun P ops o a W R := by
  have hy : yielded ops a.tmps gi = some want := by
    unfold yielded; rw [ht]
    unfold sl at hs
    cases h2 : a.tmps[t]? with
    | none => simp [h2] at hs; cases hs
    | some x => simp [h2] at hs; subst hs; simp [h2]
  unfold ObRun at h ⊢
  rw [if_pos (by simp [Region.wanted])] at h
  rw [if_pos (by simp [Region.wanted, hg, hy])]
  exact h
theorem tail_ung {P : Program} {ops : Array Oper} {Q : Exit → Act → World → Prop} (gi t : Nat) (want : Bool) (ht : (ops[gi]?).bind (·.dst) = some t) : ∀ (n : Nat) {l : List Oper} {a : Act} {W : World}
    (_ : ((l.take n).all fun o => o.guard == some (gi, want) && o.dst != some t) = true) (_ : sl a t = .bool want) (_ : runTail P ops Q (ung n l) a W), runTail P ops Q l a W
  | 0, _, _, _, _, _, h => h
  | _ + 1, [], _, _, _, _, h => h
  | n + 1, o :: l, a, W, hg, hs, h => by
    simp only [List.take_succ_cons, List.all_cons, Bool.and_eq_true, beq_iff_eq, bne_iff_ne] at hg
    refine obrun_ung hg.1.1 ht hs ?_
    exact ObRun.mono h fun v W' h' => tail_ung gi t want ht n hg.2 (by rw [sl_put_ne hg.1.2]; exact hs) h'
end Go.Eng
namespace Go.Eng
def textE (v : V) : Int := if v.k ≠ 3 then 10 else 0
def textV (v : V) : ByteArray := if textE v = 0 then v.t else ⟨#[]⟩
def boolE (v : V) : Int := if v.k ≠ 1 then 10 else 0
def boolV (v : V) : Bool := if boolE v = 0 then v.n == 1 else false
def listE (most : Int) (v : V) : Int := itemsE v most
def listV (most : Int) (v : V) : List V := itemsV v most
structure Cl where
  wh : Nat
  nm : ByteArray
  lo : Int
  hi : Int
  mo : Int
  er : Int
def Cl.d (a : Cl) : D := .agg [.int .u8 a.wh, .str a.nm, .int .i64 a.lo, .int .i64 a.hi, .int .i64 a.mo, .int .i64 a.er]
def clsD (l : List Cl) : D := .lst 6 (l.map Cl.d)
section
variable {W : World} {S : BSet} {v : Value}
theorem rdCls_out {l : List Cl} (h : Rd W S (clsD l) v) : ∃ ad cap, v = .slice ad l.length cap ∧ Rd W S (clsD l) (.slice ad l.length cap) := rdL_out (by simp) h
theorem rdCl_out {a : Cl} (h : Rd W S a.d v) : v = .agg #[.int .u8 a.wh, .string a.nm, .int .i64 a.lo, .int .i64 a.hi, .int .i64 a.mo, .int .i64 a.er] ∧ a.nm.size ≤ maxLen := by
  obtain ⟨cs, h1, rfl⟩ := h
  simp only [Cl.d, RdC, RdF] at h1
  obtain ⟨_, _, rfl, rfl, _, _, rfl, ⟨rfl, hn⟩, _, _, rfl, rfl, _, _, rfl, rfl, _, _, rfl, rfl, _, _, rfl, rfl, rfl⟩ := h1
  exact ⟨rfl, hn⟩
theorem rdCl_mk {wh : Nat} {nm : ByteArray} {lo hi mo er : Int} (h : nm.size ≤ maxLen) : Rd W S (Cl.d ⟨wh, nm, lo, hi, mo, er⟩) (.agg #[.int .u8 wh, .string nm, .int .i64 lo, .int .i64 hi, .int .i64 mo, .int .i64 er]) :=
  ⟨_, by simp only [Cl.d, RdC, RdF]; exact ⟨[_], _, rfl, rfl, [_], _, rfl, ⟨rfl, h⟩, [_], _, rfl, rfl, [_], _, rfl, rfl, [_], _, rfl, rfl, [_], [], rfl, rfl, rfl⟩, rfl⟩
theorem rdCl_any {S' : BSet} {a : Cl} (h : Rd W S a.d v) : Rd W S' a.d v := by
  obtain ⟨rfl, hn⟩ := rdCl_out h
  exact rdCl_mk hn
theorem width_Cl (a : Cl) : width a.d = 6 := by simp [Cl.d, width, widths]
theorem rdCls_len {l : List Cl} (h : Rd W S (clsD l) v) : l.length ≤ maxLen := by
  obtain ⟨cs, h1, _⟩ := h
  simp only [clsD, RdC] at h1
  obtain ⟨a, cap, _, h2, h3, _⟩ := h1
  simp at h2; omega
end
def szC : List Cl → Nat → Nat
  | [], n => n
  | c :: l, n => if n < 5000 then szC l (n + 10 + min 5000 c.nm.size) else n
theorem szC_big (l : List Cl) {n : Nat} (h : ¬ n < 5000) : szC l n = n := by cases l <;> simp [szC, h]
theorem szC_len : ∀ (l : List Cl) (n : Nat), szC l n < 5000 → n + 10 * l.length < 5000
  | [], n, h => by simpa [szC] using h
  | x :: l, n, h => by
    rw [szC] at h
    split at h
    · have := szC_len l _ h
      simp only [List.length_cons]
      omega
    · rename_i hn; exact absurd h hn
def qE (x : V) (e : Int) (c : Cl) : Int :=
  if c.wh = 0 then e else if c.wh = 1 then tkE x e c.nm textE else if c.wh = 2 then tkE x e c.nm (numE c.lo c.hi) else if c.wh = 3 then tkE x e c.nm boolE else if c.wh = 4 then tkE x e c.nm (listE c.mo)
  else if c.wh = 5 then tkE x e c.nm (textsE c.mo) else if c.wh = 6 then tkE x e c.nm (obE c.mo) else if c.wh = 7 then tkE x e c.nm anyE else if c.wh = 8 then failK x.k e c.er else e
def qA (x : V) (A : As) (e : Int) (c : Cl) : As :=
  if c.wh = 0 then A else if c.wh = 1 then tkA x A e c.nm textE else if c.wh = 2 then tkA x A e c.nm (numE c.lo c.hi) else if c.wh = 3 then tkA x A e c.nm boolE else if c.wh = 4 then tkA x A e c.nm (listE c.mo)
  else if c.wh = 5 then tkA x A e c.nm (textsE c.mo) else if c.wh = 6 then tkA x A e c.nm (obE c.mo) else if c.wh = 7 then tkA x A e c.nm anyE else A
theorem AB.qA {n : Int} {A : As} {x : V} {e : Int} {c : Cl} (h : AB n A) : AB (n + 1) (qA x A e c) := by
  unfold Go.Eng.qA
  repeat (split; · first | exact h.tk | exact h.mono (by omega))
  exact h.mono (by omega)
def runA (x : V) : As → Int → List Cl → As
  | A, _, [] => A
  | A, e, c :: l => runA x (qA x A e c) (qE x e c) l
theorem AB.run {x : V} : ∀ (l : List Cl) {n : Int} {A : As} {e : Int}, AB n A → AB (n + l.length) (runA x A e l)
  | [], n, A, e, h => by simpa [runA] using h
  | c :: l, n, A, e, h => by
    have := AB.run (x := x) l (e := qE x e c) (h.qA (x := x) (e := e) (c := c))
    simp only [List.length_cons]
    push_cast
    rw [show n + ((l.length : Int) + 1) = n + 1 + (l.length : Int) by omega]
    exact this
theorem obw_of {L : List Mb} (h : L.all (fun m => m.v.wt.ble 1073741824) = true) : ∀ m ∈ L, m.v.wt ≤ 1073741824 := fun m hm => Nat.le_of_ble_eq_true (List.all_eq_true.1 h m hm)
end Go.Eng
