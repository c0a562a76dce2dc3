import Derived.Test.YtnobijngkpflcaaH2
import Derived.Test.YtnobijngkpflcaaPureK
namespace Go.Proofs.Ytnobijngkpflcaa
open Go.Eng
set_option maxRecDepth 100000 in
theorem Err_ok (k : Nat) (n : Int) (t : ByteArray) (cn ci mv : Value) (e : Int) (w : World) (bo : Nat) (own_bo : Own w bo [.int .u8 k, .int .i64 n, .string t, cn, ci, mv, .int .i64 e] 74) : Calls Try.prog 24 #[.pointer (some ⟨bo, 0, none⟩)] w (Ret w fun u _ => u = .int .i64 (errK k e)) := by
  refine enter Try.func24 rfl Try.ntmps24 (lbr rfl) fun a0 y0 zz0 harg => ?_
  have e0 : sl a0 0 = (.pointer (some ⟨bo, 0, none⟩)) := harg 0 (lbr rfl)
  have kw := Keeps.refl All w
  clear harg
  refine wp_seq_k fun K1 hK1 => ?_
  refine rg mixed y0 zz0 ?_
  refine .i (sp_assign Has.cst) ?_
  refine .done ⟨by kernel_rfl, fun a2 g W2 y2 zz2 hk hg hV hR hP => ?_⟩
  obtain ⟨-, -⟩ := hV
  replace e0 := (hR 0 rfl).trans e0
  replace own_bo := own_bo.ext hk
  replace kw := kw.x hk
  clear hR hk hg hP
  refine tail_nil (hK1 _ _ ?_)
  refine wp_seq_k fun K3 hK3 => ?_
  refine wp_seq_k fun K4 hK4 => ?_
  refine rg mixed y2 zz2 ?_
  refine .i (sp_move (hbs rfl e0)) ?_
  refine .i (v := (.bool (false))) (sp_nilEq Try.underlying40 (hlc rfl) Has.cst (by simp) rfl) ?_
  refine .done ⟨by kernel_rfl, fun a5 g W5 y5 zz5 hk hg hV hR hP => ?_⟩
  obtain ⟨e4, -, -⟩ := hV
  replace e0 := (hR 0 rfl).trans e0
  have e4 : sl a5 4 = (.bool (false)) := e4
  replace own_bo := own_bo.ext hk
  replace kw := kw.x hk
  clear hR hk hg hP
  refine tail_nil (hK4 _ _ ?_)
  refine wp_cond_false e4 ?_
  refine wp_skip (hK3 _ _ ?_)
  refine wp_seq_k fun K6 hK6 => ?_
  refine wp_seq_k fun K7 hK7 => ?_
  refine rg mixed y5 zz5 ?_
  refine .i (sp_move (hbs rfl e0)) ?_
  refine .i (sp_nilP (hlc rfl)) ?_
  refine .i (fo 6 (hlc rfl) Try.underlying74 rfl sz28 rfl) ?_
  refine .i (lo1 (hlc rfl) own_bo trivial agg28 sz28 rfl) ?_
  refine .i (sp_eql (hlc rfl) Has.cst) ?_
  refine .i (sp_move (hlc rfl)) ?_
  refine .e (t := 10) rfl (hlc rfl) (fun hg => sp_move (hbs rfl e0)) ?_
  refine .e (t := 10) rfl (hlc rfl) (fun hg => sp_nilP ((hlc rfl).undE hg)) ?_
  refine .e (t := 10) rfl (hlc rfl) (fun hg => fo 0 ((hlc rfl).undE hg) Try.underlying74 rfl sz33 rfl) ?_
  refine .e (t := 10) rfl (hlc rfl) (fun hg => fo 0 ((hlc rfl).undE hg) Try.underlying33 rfl sz5 rfl) ?_
  refine .e (t := 10) rfl (hlc rfl) (fun hg => lo1 ((hlc rfl).undE hg) own_bo trivial agg5 sz5 rfl) ?_
  refine .e (t := 10) rfl (hlc rfl) (fun hg => sp_neq ((hlc rfl).undE hg) Has.cst) ?_
  refine .i (sp_and (hlc rfl) ((hlc rfl).weak fun hq => hq)) ?_
  refine .done ⟨by kernel_rfl, fun a8 g W8 y8 zz8 hk hg hV hR hP => ?_⟩
  obtain ⟨e17, -, -, -, -, -, -, -, -, -, -, -, -, -⟩ := hV
  replace e0 := (hR 0 rfl).trans e0
  replace e17 := e17.q
  replace own_bo := own_bo.ext hk
  replace kw := kw.x hk
  clear hR hk hg hP
  refine tail_nil (hK7 _ _ ?_)
  refine wp_cond_split e17 (fun hc => ?_) (fun hc => ?_)
  ·
   have hf : errK k e = 10 := by rw [errK, if_pos]; simp at hc; omega
   refine wp_seq_k fun K9 hK9 => ?_
   refine rg mixed y8 zz8 ?_
   refine .i (sp_assign Has.cst) ?_
   refine .done ⟨by kernel_rfl, fun a10 g W10 y10 zz10 hk hg hV hR hP => ?_⟩
   obtain ⟨e2, -⟩ := hV
   have e2 : sl a10 2 = (.int .i64 (10)) := e2
   replace own_bo := own_bo.ext hk
   replace kw := kw.x hk
   clear hR hk hg hP
   refine tail_nil (hK9 _ _ ?_)
   refine wp_ret ?_
   refine (show bodyPost Try.prog Try.f24 _ .ret _ _ from ret1 rfl zz10 e2 ⟨_, rfl, kw, ?_⟩)
   rw [hf]
  ·
   have hf : errK k e = e := by rw [errK, if_neg]; simp at hc; omega
   refine wp_skip (hK6 _ _ ?_)
   refine wp_seq_k fun K11 hK11 => ?_
   refine rg mixed y8 zz8 ?_
   refine .i (sp_move (hbs rfl e0)) ?_
   refine .i (sp_nilP (hlc rfl)) ?_
   refine .i (fo 6 (hlc rfl) Try.underlying74 rfl sz28 rfl) ?_
   refine .i (lo1 (hlc rfl) own_bo trivial agg28 sz28 rfl) ?_
   refine .i (sp_assign (hlc rfl)) ?_
   refine .done ⟨by kernel_rfl, fun a12 g W12 y12 zz12 hk hg hV hR hP => ?_⟩
   obtain ⟨e2, -, -, -, -, -⟩ := hV
   have e2 : sl a12 2 = (.int .i64 (e)) := e2
   replace own_bo := own_bo.ext hk
   replace kw := kw.x hk
   clear hR hk hg hP
   refine tail_nil (hK11 _ _ ?_)
   refine wp_ret ?_
   refine (show bodyPost Try.prog Try.f24 _ .ret _ _ from ret1 rfl zz12 e2 ⟨_, rfl, kw, ?_⟩)
   rw [hf]

set_option maxRecDepth 100000 in
theorem Fail_ok (k : Nat) (n : Int) (t : ByteArray) (cn ci mv : Value) (e : Int) (f : Int) (w : World) (bo : Nat) (own_bo : Own w bo [.int .u8 k, .int .i64 n, .string t, cn, ci, mv, .int .i64 e] 74) : Calls Try.prog 22 #[.pointer (some ⟨bo, 0, none⟩), .int .i64 f] w (RetL w [bo] fun u W => u = .tuple #[] ∧ Own W bo [.int .u8 k, .int .i64 n, .string t, cn, ci, mv, .int .i64 (failK k e f)] 74) := by
  refine enter Try.func22 rfl Try.ntmps22 (lbr rfl) fun a0 y0 zz0 harg => ?_
  have e0 : sl a0 0 = (.pointer (some ⟨bo, 0, none⟩)) := harg 0 (lbr rfl)
  have e1 : sl a0 1 = (.int .i64 (f)) := harg 1 (lbr rfl)
  have kw := Keeps.refl (fun k => k ∉ [bo]) w
  clear harg
  refine wp_seq_k fun K1 hK1 => ?_
  refine rg mixed y0 zz0 ?_
  refine .i (sp_move (hbs rfl e0)) ?_
  refine .i (v := (.int .i64 (errK (k : Nat) e))) (sp_call1 (φ1 := Is (.pointer (some ⟨bo, 0, none⟩))) ent24 (hlc rfl) (fun g u1 W hk hgk h1 => by have h1 : u1 = _ := h1; subst u1; exact Err_ok _ _ _ _ _ _ _ W _ (own_bo.ext hk))) ?_
  refine .i (sp_eql (hlc rfl) Has.cst) ?_
  refine .done ⟨by kernel_rfl, fun a2 g W2 y2 zz2 hk hg hV hR hP => ?_⟩
  obtain ⟨e6, -, -, -⟩ := hV
  replace e0 := (hR 0 rfl).trans e0
  replace e1 := (hR 1 rfl).trans e1
  replace e6 := e6.q
  replace own_bo := own_bo.ext hk
  replace kw := kw.x hk
  clear hR hk hg hP
  refine tail_nil (hK1 _ _ ?_)
  refine wp_cond_split e6 (fun hc => ?_) (fun hc => ?_)
  ·
   have hf : failK k e f = f := by rw [failK, if_pos (by simpa using hc)]
   refine rg mixed y2 zz2 ?_
   refine .i (sp_move (hbs rfl e0)) ?_
   refine .i (sp_move (hbs rfl e1)) ?_
   refine .i (sp_nilP (hlc rfl)) ?_
   refine .i (fo 6 (hlc rfl) Try.underlying74 rfl sz28 rfl) ?_
   refine .done ⟨by kernel_rfl, fun a3 g W3 y3 zz3 hk hg hV hR hP => ?_⟩
   obtain ⟨e10, -, e8, -, -⟩ := hV
   have e8 : sl a3 8 = (.int .i64 (f)) := e8
   have e10 : sl a3 10 = (.pointer (some ⟨bo, 6, none⟩)) := e10
   replace own_bo := own_bo.ext hk
   replace kw := kw.x hk
   clear hR hk hg hP
   refine tail_store (b := bo) (o := 6) (v := (.int .i64 (f))) e10 e8 sz28 rfl own_bo (lbr rfl) (all_cons rfl all_nil) (fun W4 hs own_bo => ?_)
   have own_bo : Own W4 bo [(.int .u8 ((k : Nat))), (.int .i64 (n)), (.string (t)), cn, ci, mv, (.int .i64 (f))] 74 := own_bo
   replace kw := keeps_storeN kw hs (by simp)
   clear hs
   refine tail_nil ?_
   refine (show bodyPost Try.prog Try.f22 _ .ret _ _ from ret0 rfl zz3 ⟨_, rfl, kw, ?_⟩)
   exact ⟨rfl, by rw [hf]; exact own_bo⟩
  ·
   have hf : failK k e f = e := by rw [failK, if_neg (by simpa using hc)]
   refine wp_skip ?_
   refine (show bodyPost Try.prog Try.f22 _ .ret _ _ from ret0 rfl zz2 ⟨_, rfl, kw, ?_⟩)
   exact ⟨rfl, by rw [hf]; exact own_bo⟩

set_option maxRecDepth 100000 in
theorem items_ok (x : V) (most : Int) (w : World) (S : BSet) (v : Value) (hv : Rd w S x.d v) : Calls Try.prog 100 #[v, .int .i64 most] w (Ret w fun r W => ∃ r1, r = .tuple #[r1, .int .i64 (itemsE x most)] ∧ Rd W (Ar w S) (valsD (itemsV x most)) r1) := by
  obtain ⟨cn0a, cn0c, ci0a, ci0c, ev, ht0, D_cn0, D_ci0⟩ := rdV_out (rd_arg hv)
  subst ev
  refine enter Try.func100 rfl Try.ntmps100 (lbr rfl) fun a0 y0 zz0 harg => ?_
  have e0 : sl a0 0 = (.agg #[(.int .u8 (x.k)), (.int .i64 (x.n)), (.string (x.t)), (.slice cn0a (x.ns.length) cn0c), (.slice ci0a (x.xs.length) ci0c)]) := harg 0 (lbr rfl)
  have e1 : sl a0 1 = (.int .i64 (most)) := harg 1 (lbr rfl)
  have kw := Keeps.refl All w
  clear harg
  refine wp_seq_k fun K1 hK1 => ?_
  refine rg mixed y0 zz0 ?_
  refine .boxOp (v := (.agg #[(.int .u8 (x.k)), (.int .i64 (x.n)), (.string (x.t)), (.slice cn0a (x.ns.length) cn0c), (.slice ci0a (x.xs.length) ci0c)])) (hbs rfl e0) ?_
  refine .i (sp_assign Has.cst) ?_
  refine .i (sp_assign Has.cst) ?_
  refine .done ⟨by kernel_rfl, fun a2 g W2 y2 zz2 hk hg hV hR hP => ?_⟩
  obtain ⟨-, -, ⟨b2_2, e2, hb2, own_b2_2⟩, -⟩ := hV
  have lo_b2_2 : w.heap.size ≤ b2_2 := Nat.le_trans kw.size (hg.lo _ _ hb2)
  have own_b2_2 : Own W2 b2_2 [(.int .u8 (x.k)), (.int .i64 (x.n)), (.string (x.t)), (.slice cn0a (x.ns.length) cn0c), (.slice ci0a (x.xs.length) ci0c)] 33 := own_b2_2
  replace e1 := (hR 1 rfl).trans e1
  replace D_cn0 := sa_more D_cn0 hk [b2_2] (in_cons (hg.lo _ _ hb2) in_nil)
  replace D_ci0 := sa_more D_ci0 hk [b2_2] (in_cons (hg.lo _ _ hb2) in_nil)
  replace kw := kw.x hk
  clear hR hk hg hP hb2
  refine tail_nil (hK1 _ _ ?_)
  refine wp_seq_k fun K3 hK3 => ?_
  refine wp_seq_k fun K4 hK4 => ?_
  refine rg mixed y2 zz2 ?_
  refine .i (fo 0 (hbs rfl e2) Try.underlying33 rfl sz5 rfl) ?_
  refine .i (lo1 (hlc rfl) own_b2_2 trivial agg5 sz5 rfl) ?_
  refine .i (sp_neq (hlc rfl) Has.cst) ?_
  refine .done ⟨by kernel_rfl, fun a5 g W5 y5 zz5 hk hg hV hR hP => ?_⟩
  obtain ⟨e8, -, -, -⟩ := hV
  replace e1 := (hR 1 rfl).trans e1
  replace e2 := (hR 2 rfl).trans e2
  replace D_cn0 := D_cn0.ext hk
  replace D_ci0 := D_ci0.ext hk
  have e8 : sl a5 8 = (.bool ((x.k : Int) != (4 : Int))) := e8
  replace own_b2_2 := own_b2_2.ext hk
  replace kw := kw.x hk
  clear hR hk hg hP
  refine tail_nil (hK4 _ _ ?_)
  refine wp_cond_split e8 (fun hc => ?_) (fun hc => ?_)
  ·
   have hk : x.k ≠ 4 := by simp at hc; omega
   have hf : itemsE x most = 10 := by rw [itemsE, if_pos hk]
   have hv2 : itemsV x most = [] := by rw [itemsV, hf]; rfl
   refine wp_seq_k fun K6 hK6 => ?_
   refine rg mixed y5 zz5 ?_
   refine .i (sp_assign Has.cst) ?_
   refine .i (sp_assign Has.cst) ?_
   refine .done ⟨by kernel_rfl, fun a7 g W7 y7 zz7 hk hg hV hR hP => ?_⟩
   obtain ⟨e5, e4, -⟩ := hV
   replace D_cn0 := D_cn0.ext hk
   replace D_ci0 := D_ci0.ext hk
   have e4 : sl a7 4 = (.slice none 0 0) := e4
   have e5 : sl a7 5 = (.int .i64 (10)) := e5
   replace own_b2_2 := own_b2_2.ext hk
   replace kw := kw.x hk
   clear hR hk hg hP
   refine tail_nil (hK6 _ _ ?_)
   refine wp_ret ?_
   refine (show bodyPost Try.prog Try.f100 _ .ret _ _ from ret2 rfl zz7 e4 e5 ⟨_, rfl, kw, ?_⟩)
   refine ⟨_, by rw [hf], ?_⟩
   rw [hv2]
   exact rd_nil _
  ·
   have hk : ¬ x.k ≠ 4 := by simp at hc; omega
   refine wp_skip (hK3 _ _ ?_)
   refine wp_seq_k fun K8 hK8 => ?_
   refine wp_seq_k fun K9 hK9 => ?_
   refine rg mixed y5 zz5 ?_
   refine .i (fo 4 (hbs rfl e2) Try.underlying33 rfl sz31 rfl) ?_
   refine .i (lo1 (hlc rfl) own_b2_2 trivial agg31 sz31 rfl) ?_
   refine .i (sp_lenVs Try.underlying31 ((hlc rfl).dat D_ci0 sub_all)) ?_
   refine .i (sp_move (hbs rfl e1)) ?_
   refine .i (sp_gtr (hlc rfl) (hlc rfl)) ?_
   refine .done ⟨by kernel_rfl, fun a10 g W10 y10 zz10 hk hg hV hR hP => ?_⟩
   obtain ⟨e13, -, -, -, -, -⟩ := hV
   replace e2 := (hR 2 rfl).trans e2
   replace D_cn0 := D_cn0.ext hk
   replace D_ci0 := D_ci0.ext hk
   replace e13 := e13.q
   replace own_b2_2 := own_b2_2.ext hk
   replace kw := kw.x hk
   clear hR hk hg hP
   refine tail_nil (hK9 _ _ ?_)
   refine wp_cond_split e13 (fun hc => ?_) (fun hc => ?_)
   ·
    have hl : most < x.xs.length := of_decide_eq_true hc
    have hf : itemsE x most = 5 := by rw [itemsE, if_neg hk, if_pos hl]
    have hv2 : itemsV x most = [] := by rw [itemsV, hf]; rfl
    refine wp_seq_k fun K11 hK11 => ?_
    refine rg mixed y10 zz10 ?_
    refine .i (sp_assign Has.cst) ?_
    refine .i (sp_assign Has.cst) ?_
    refine .done ⟨by kernel_rfl, fun a12 g W12 y12 zz12 hk hg hV hR hP => ?_⟩
    obtain ⟨e5, e4, -⟩ := hV
    replace D_cn0 := D_cn0.ext hk
    replace D_ci0 := D_ci0.ext hk
    have e4 : sl a12 4 = (.slice none 0 0) := e4
    have e5 : sl a12 5 = (.int .i64 (5)) := e5
    replace own_b2_2 := own_b2_2.ext hk
    replace kw := kw.x hk
    clear hR hk hg hP
    refine tail_nil (hK11 _ _ ?_)
    refine wp_ret ?_
    refine (show bodyPost Try.prog Try.f100 _ .ret _ _ from ret2 rfl zz12 e4 e5 ⟨_, rfl, kw, ?_⟩)
    refine ⟨_, by rw [hf], ?_⟩
    rw [hv2]
    exact rd_nil _
   ·
    have hl : ¬ most < x.xs.length := of_decide_eq_false hc
    have hf : itemsE x most = 0 := by rw [itemsE, if_neg hk, if_neg hl]
    have hv2 : itemsV x most = x.xs := by rw [itemsV, if_pos hf]
    refine wp_skip (hK8 _ _ ?_)
    refine wp_seq_k fun K13 hK13 => ?_
    refine rg mixed y10 zz10 ?_
    refine .i (fo 4 (hbs rfl e2) Try.underlying33 rfl sz31 rfl) ?_
    refine .i (lo1 (hlc rfl) own_b2_2 trivial agg31 sz31 rfl) ?_
    refine .i (sp_assign (hlc rfl)) ?_
    refine .i (sp_assign Has.cst) ?_
    refine .done ⟨by kernel_rfl, fun a14 g W14 y14 zz14 hk hg hV hR hP => ?_⟩
    obtain ⟨e5, e4, -, -, -⟩ := hV
    replace D_cn0 := D_cn0.ext hk
    replace D_ci0 := D_ci0.ext hk
    have e4 : sl a14 4 = (.slice ci0a (x.xs.length) ci0c) := e4
    have e5 : sl a14 5 = (.int .i64 (0)) := e5
    replace own_b2_2 := own_b2_2.ext hk
    replace kw := kw.x hk
    clear hR hk hg hP
    refine tail_nil (hK13 _ _ ?_)
    refine wp_ret ?_
    refine (show bodyPost Try.prog Try.f100 _ .ret _ _ from ret2 rfl zz14 e4 e5 ⟨_, rfl, kw, ?_⟩)
    refine ⟨_, by rw [hf], ?_⟩
    rw [hv2]
    exact sa_ar D_ci0

set_option maxRecDepth 100000 in
theorem texts1_ok (x : V) (most : Int) (hx : x.wt ≤ 1073741824) (w : World) (S : BSet) (v : Value) (bq : Nat) (hv : Rd w S x.d v) (own_bq : Own w bq [.int .i64 most] 3) : Calls Try.prog 99 #[v, .pointer (some ⟨bq, 0, none⟩)] w (Ret w fun r W => ∃ r1, r = .tuple #[r1, .int .i64 (textsE most x)] ∧ Rd W (Fr w) (strsD (textsL most x)) r1) := by
  have hwx := wt_eq x
  have hwl := wts_len x.xs
  obtain ⟨cn0a, cn0c, ci0a, ci0c, ev, ht0, D_cn0, D_ci0⟩ := rdV_out (rd_arg hv)
  subst ev
  refine enter Try.func99 rfl Try.ntmps99 (lbr rfl) fun a0 y0 zz0 harg => ?_
  have e0 : sl a0 0 = (.agg #[(.int .u8 (x.k)), (.int .i64 (x.n)), (.string (x.t)), (.slice cn0a (x.ns.length) cn0c), (.slice ci0a (x.xs.length) ci0c)]) := harg 0 (lbr rfl)
  have e1 : sl a0 1 = (.pointer (some ⟨bq, 0, none⟩)) := harg 1 (lbr rfl)
  have kw := Keeps.refl All w
  clear harg
  refine wp_seq_k fun K1 hK1 => ?_
  refine rg mixed y0 zz0 ?_
  refine .boxOp (v := (.agg #[(.int .u8 (x.k)), (.int .i64 (x.n)), (.string (x.t)), (.slice cn0a (x.ns.length) cn0c), (.slice ci0a (x.xs.length) ci0c)])) (hbs rfl e0) ?_
  refine .i (sp_assign Has.cst) ?_
  refine .i (sp_assign Has.cst) ?_
  refine .done ⟨by kernel_rfl, fun a2 g W2 y2 zz2 hk hg hV hR hP => ?_⟩
  obtain ⟨-, -, ⟨b2_2, e2, hb2, own_b2_2⟩, -⟩ := hV
  have lo_b2_2 : w.heap.size ≤ b2_2 := Nat.le_trans kw.size (hg.lo _ _ hb2)
  have ne_bq_b2_2 : bq ≠ b2_2 := Nat.ne_of_lt (Nat.lt_of_lt_of_le own_bq.lt (hg.lo _ _ hb2))
  have own_b2_2 : Own W2 b2_2 [(.int .u8 (x.k)), (.int .i64 (x.n)), (.string (x.t)), (.slice cn0a (x.ns.length) cn0c), (.slice ci0a (x.xs.length) ci0c)] 33 := own_b2_2
  replace e1 := (hR 1 rfl).trans e1
  replace D_cn0 := sa_more D_cn0 hk [b2_2] (in_cons (hg.lo _ _ hb2) in_nil)
  replace D_ci0 := sa_more D_ci0 hk [b2_2] (in_cons (hg.lo _ _ hb2) in_nil)
  replace own_bq := own_bq.ext hk
  replace kw := kw.x hk
  clear hR hk hg hP hb2
  refine tail_nil (hK1 _ _ ?_)
  refine wp_seq_k fun K3 hK3 => ?_
  refine rg mixed y2 zz2 ?_
  refine .i (v := (.agg #[(.int .u8 (x.k)), (.int .i64 (x.n)), (.string (x.t)), (.slice cn0a (x.ns.length) cn0c), (.slice ci0a (x.xs.length) ci0c)])) (loA (hbs rfl e2) own_b2_2 trivial agg33 sz33 rfl rfl) ?_
  refine .i (lo1 (hbs rfl e1) own_bq trivial agg3 sz3 rfl) ?_
  refine .op (φ := IsT (IsD (SA w S [b2_2]) (valsD (itemsV (x) most))) (Is (.int .i64 (itemsE (x) most)))) (st_t (st_d sub_all) (st_is _)) (sp_call2 (φ1 := IsD (SA w S [b2_2]) (V.d (x))) (φ2 := Is (.int .i64 (most))) ent100 ((hlc rfl).dat (rdV_in (x := x) ht0 D_cn0 D_ci0 : Rd W2 (SA w S [b2_2]) (V.d (x)) _) sub_all) (hlc rfl) (fun g u1 u2 W hk hgk h1 h2 => by have h2 : u2 = _ := h2; subst u2; exact (items_ok (x) (most) W _ _ h1).mono (fun _ _ ⟨v, h1, h2, r1, h3, h4⟩ => ⟨v, h1, h2, r1, _, h3, rd_ar_sa kw (in_cons own_b2_2.lt in_nil) hk hgk h4, rfl⟩))) ?_
  refine .op (φ := IsT (IsD (SA w S [b2_2]) (valsD (itemsV (x) most))) (Is (.int .i64 (itemsE (x) most)))) (st_t (st_d sub_all) (st_is _)) (sp_move (hlc rfl)) ?_
  refine .da (X := SA w S [b2_2]) (e := valsD (itemsV (x) most)) (sp_ext2 (hlc rfl) rfl) ?_
  refine .i (v := (.int .i64 (itemsE (x) most))) (sp_ext2' (hlc rfl) rfl) ?_
  refine .da (X := SA w S [b2_2]) (e := valsD (itemsV (x) most)) (sp_assign (hlc rfl)) ?_
  refine .i (sp_assign (hlc rfl)) ?_
  refine .done ⟨by kernel_rfl, fun a4 g W4 y4 zz4 hk hg hV hR hP => ?_⟩
  obtain ⟨e6, e5, -, -, -, -, -, -, -⟩ := hV
  replace D_cn0 := D_cn0.ext hk
  replace D_ci0 := D_ci0.ext hk
  obtain ⟨v5_4, ev⟩ : ∃ v, sl a4 5 = v := ⟨_, rfl⟩
  rw [ev] at e5
  have D_v5_4 : Rd W4 (SA w S [b2_2]) (valsD (itemsV (x) most)) v5_4 := sa_end e5 hk [] in_nil
  replace e5 := ev; clear ev
  obtain ⟨v5_4a, v5_4c, ev, D2⟩ := rdVs_out D_v5_4
  subst ev; replace D_v5_4 := D2; clear D2
  have e6 : sl a4 6 = (.int .i64 (itemsE (x) most)) := e6
  replace own_bq := own_bq.ext hk
  replace own_b2_2 := own_b2_2.ext hk
  replace kw := kw.x hk
  clear hR hk hg hP
  refine tail_nil (hK3 _ _ ?_)
  refine wp_seq_k fun K5 hK5 => ?_
  refine wp_seq_k fun K6 hK6 => ?_
  refine rg mixed y4 zz4 ?_
  refine .i (sp_move (hbs rfl e6)) ?_
  refine .i (sp_neq (hlc rfl) Has.cst) ?_
  refine .done ⟨by kernel_rfl, fun a7 g W7 y7 zz7 hk hg hV hR hP => ?_⟩
  obtain ⟨e17, -, -⟩ := hV
  replace e5 := (hR 5 rfl).trans e5
  replace e6 := (hR 6 rfl).trans e6
  replace D_v5_4 := D_v5_4.ext hk
  replace e17 := e17.q
  replace own_bq := own_bq.ext hk
  replace own_b2_2 := own_b2_2.ext hk
  replace kw := kw.x hk
  clear hR hk hg hP
  refine tail_nil (hK6 _ _ ?_)
  refine wp_cond_split e17 (fun hc => ?_) (fun hc => ?_)
  ·
   have hi : itemsE x most ≠ 0 := by simpa using hc
   have hf : textsE most x = itemsE x most := by rw [textsE, if_pos hi]
   have hv2 : textsL most x = [] := by rw [textsL, hf, if_neg hi]
   refine wp_seq_k fun K8 hK8 => ?_
   refine rg mixed y7 zz7 ?_
   refine .i (sp_move (hbs rfl e6)) ?_
   refine .i (sp_assign Has.cst) ?_
   refine .i (sp_assign (hlc rfl)) ?_
   refine .done ⟨by kernel_rfl, fun a9 g W9 y9 zz9 hk hg hV hR hP => ?_⟩
   obtain ⟨e4, e3, -, -⟩ := hV
   replace D_v5_4 := D_v5_4.ext hk
   have e3 : sl a9 3 = (.slice none 0 0) := e3
   have e4 : sl a9 4 = (.int .i64 (itemsE (x) most)) := e4
   replace own_bq := own_bq.ext hk
   replace own_b2_2 := own_b2_2.ext hk
   replace kw := kw.x hk
   clear hR hk hg hP
   refine tail_nil (hK8 _ _ ?_)
   refine wp_ret ?_
   refine (show bodyPost Try.prog Try.f99 _ .ret _ _ from ret2 rfl zz9 e3 e4 ⟨_, rfl, kw, ?_⟩)
   refine ⟨_, by rw [hf], ?_⟩
   rw [hv2]
   exact rd_nil _
  ·
   have hi : itemsE x most = 0 := by simpa using hc
   have hiv : itemsV x most = x.xs := by rw [itemsV, if_pos hi]
   refine wp_skip (hK5 _ _ ?_)
   refine wp_seq_k fun K10 hK10 => ?_
   refine rg mixed y7 zz7 ?_
   refine .i (sp_assign Has.cst) ?_
   refine .done ⟨by kernel_rfl, fun a11 g W11 y11 zz11 hk hg hV hR hP => ?_⟩
   obtain ⟨e7, -⟩ := hV
   replace e5 := (hR 5 rfl).trans e5
   replace D_v5_4 := D_v5_4.ext hk
   have e7 : sl a11 7 = (.slice none 0 0) := e7
   replace own_bq := own_bq.ext hk
   replace own_b2_2 := own_b2_2.ext hk
   replace kw := kw.x hk
   clear hR hk hg hP
   refine tail_nil (hK10 _ _ ?_)
   refine wp_seq_k fun K12 hK12 => ?_
   refine wp_seq_k fun K13 hK13 => ?_
   refine rg mixed y11 zz11 ?_
   refine .i (sp_move (hbs rfl e5)) ?_
   refine .i (sp_lenVs Try.underlying31 ((hlc rfl).dat D_v5_4 sub_all)) ?_
   refine .i (sp_move Has.cst) ?_
   refine .done ⟨by kernel_rfl, fun a14 g W14 y14 zz14 hk hg hV hR hP => ?_⟩
   obtain ⟨e21, e20, e19, -⟩ := hV
   replace e7 := (hR 7 rfl).trans e7
   replace D_v5_4 := D_v5_4.ext hk
   replace e19 := e19.q
   have e20 : sl a14 20 = (.int .i64 ((itemsV (x) most).length)) := e20
   have e21 : sl a14 21 = (.int .i64 (0)) := e21
   replace own_bq := own_bq.ext hk
   replace own_b2_2 := own_b2_2.ext hk
   replace kw := kw.x hk
   clear hR hk hg hP
   refine tail_nil (hK13 _ _ ?_)
   refine wp_block ?_
   replace D_v5_4 := sa_less (M' := []) D_v5_4 ls_nil
   have A_ar15 : Arr W14 w.heap.size 9 1 (SF w (blks none ++ [])) (List.map D.str ([])) (.slice none 0 0) none := arr_nil _ _ _ _ _
   replace D_v5_4 : Rd W14 (SA w S (blks none ++ [])) (valsD (itemsV (x) most)) (.slice v5_4a ((itemsV (x) most).length) v5_4c) := D_v5_4
   refine wp_for ((itemsV x most).length) (fun k a W => ∃ (vs7_16 : Value), ∃ (hds7_16 : Option Nat), a.tmps.size = 35 ∧ a.defers = [] ∧ Keeps All w W ∧ sl a 7 = vs7_16 ∧ sl a 19 = (.slice v5_4a ((itemsV (x) most).length) v5_4c) ∧ sl a 20 = (.int .i64 ((itemsV (x) most).length)) ∧ sl a 21 = (.int .i64 ((k : Nat))) ∧ Rd W (SA w S (blks hds7_16 ++ [])) (valsD (itemsV (x) most)) (.slice v5_4a ((itemsV (x) most).length) v5_4c) ∧ Arr W w.heap.size 9 1 (SF w (blks hds7_16 ++ [])) (List.map D.str (List.map V.t ((itemsV x most).take k))) vs7_16 hds7_16 ∧ (∀ i (h : i < (itemsV x most).length), i < k → ((itemsV x most)[i]'h).k = 3)) ⟨(.slice none 0 0), none, y14, zz14, kw, e7, e19, e20, (e21.trans (congrArg (Value.int .i64) (rfl))), D_v5_4, A_ar15, fun i h hi => absurd hi (by omega)⟩ ?_
   clear kw e7 e19 e20 e21 D_v5_4 A_ar15
   rintro k a16 W16 hkk ⟨vs7_16, hds7_16, y16, zz16, kw, e7, e19, e20, e21, D_v5_4, As7_16, hinv⟩
   refine wp_seq_k fun K17 hK17 => ?_
   refine rg mixed y16 zz16 ?_
   refine .i (sp_lss (hbs rfl e21) (hbs rfl e20)) ?_
   refine .done ⟨by kernel_rfl, fun a18 g W18 y18 zz18 hk hg hV hR hP => ?_⟩
   obtain ⟨e22, -⟩ := hV
   replace e7 := (hR 7 rfl).trans e7
   replace e19 := (hR 19 rfl).trans e19
   replace e20 := (hR 20 rfl).trans e20
   replace e21 := (hR 21 rfl).trans e21
   replace As7_16 := As7_16.ext hk
   replace D_v5_4 := D_v5_4.ext hk
   replace e22 := e22.q
   replace kw := kw.x hk
   clear hR hk hg hP
   refine tail_nil (hK17 _ _ ?_)
   refine wp_seq_k fun K19 hK19 => ?_
   refine wp_cond_split e22 (fun hc => ?_) (fun hc => ?_)
   ·
    have hlt : k < (itemsV x most).length := by simpa using hc
    refine wp_skip (hK19 _ _ ?_)
    refine wp_seq_k fun K20 hK20 => ?_
    refine wp_block ?_
    refine wp_seq_k fun K21 hK21 => ?_
    refine rg mixed y18 zz18 ?_
    refine .rf (sp_indexV (i := k) ((hbs rfl e19).dat D_v5_4 sub_all) (hbs rfl e21) Try.underlying31 sz33 rfl hlt) ?_
    refine .da (sp_loadV (hlc rfl) agg33 sz33) ?_
    refine .alloc z33 ?_
    refine .done ⟨by kernel_rfl, fun a22 g W22 y22 zz22 hk hg hV hR hP => ?_⟩
    obtain ⟨⟨b9_22, e9, hb9, own_b9_22⟩, e24, -, -⟩ := hV
    have lo_b9_22 : w.heap.size ≤ b9_22 := Nat.le_trans kw.size (hg.lo _ _ hb9)
    have own_b9_22 : Own W22 b9_22 [(.int .u8 (0)), (.int .i64 (0)), (.string (⟨#[]⟩)), (.slice none 0 0), (.slice none 0 0)] 33 := own_b9_22
    replace e7 := (hR 7 rfl).trans e7
    replace e19 := (hR 19 rfl).trans e19
    replace e20 := (hR 20 rfl).trans e20
    replace e21 := (hR 21 rfl).trans e21
    have nb_b9_22_ar15 : b9_22 ∉ blks hds7_16 := nb_lt As7_16.lt (hg.lo _ _ hb9)
    replace As7_16 : Arr W22 w.heap.size 9 1 (SF w (b9_22 :: (blks hds7_16 ++ []))) (List.map D.str (List.map V.t ((itemsV x most).take k))) vs7_16 hds7_16 := arrF_more As7_16 hk [b9_22] (in_cons (hg.lo _ _ hb9) in_nil)
    replace D_v5_4 : Rd W22 (SA w S (b9_22 :: (blks hds7_16 ++ []))) (valsD (itemsV (x) most)) (.slice v5_4a ((itemsV (x) most).length) v5_4c) := sa_more D_v5_4 hk [b9_22] (in_cons (hg.lo _ _ hb9) in_nil)
    obtain ⟨v24_22, ev⟩ : ∃ v, sl a22 24 = v := ⟨_, rfl⟩
    rw [ev] at e24
    have D_v24_22 : Rd W22 (SA w S (b9_22 :: (blks hds7_16 ++ []))) (V.d ((itemsV (x) most)[k]'hlt)) v24_22 := sa_end e24 hk [b9_22] (in_cons ⟨_, hb9⟩ in_nil)
    replace e24 := ev; clear ev
    obtain ⟨cn24_22a, cn24_22c, ci24_22a, ci24_22c, ev, ht_v24_22, D_cn24_22, D_ci24_22⟩ := rdV_out D_v24_22
    subst ev; clear D_v24_22
    replace kw := kw.x hk
    clear hR hk hg hP hb9
    refine tail_store (b := b9_22) (o := 0) (v := (.agg #[(.int .u8 (((itemsV (x) most)[k]'hlt).k)), (.int .i64 (((itemsV (x) most)[k]'hlt).n)), (.string (((itemsV (x) most)[k]'hlt).t)), (.slice cn24_22a ((((itemsV (x) most)[k]'hlt).ns).length) cn24_22c), (.slice ci24_22a ((((itemsV (x) most)[k]'hlt).xs).length) ci24_22c)])) e9 e24 sz33 rfl own_b9_22 (lbr rfl) (all_cons rfl (all_cons rfl (all_cons rfl (all_cons rfl (all_cons rfl all_nil))))) (fun W23 hs own_b9_22 => ?_)
    have own_b9_22 : Own W23 b9_22 [(.int .u8 (((itemsV (x) most)[k]'hlt).k)), (.int .i64 (((itemsV (x) most)[k]'hlt).n)), (.string (((itemsV (x) most)[k]'hlt).t)), (.slice cn24_22a ((((itemsV (x) most)[k]'hlt).ns).length) cn24_22c), (.slice ci24_22a ((((itemsV (x) most)[k]'hlt).xs).length) ci24_22c)] 33 := own_b9_22
    replace D_v5_4 := sa_store D_v5_4 hs (by simp)
    replace D_cn24_22 := sa_store D_cn24_22 hs (by simp)
    replace D_ci24_22 := sa_store D_ci24_22 hs (by simp)
    replace As7_16 := arrF_store As7_16 hs (by simp) nb_b9_22_ar15
    replace kw := keeps_store kw hs lo_b9_22
    clear hs
    refine tail_nil (hK21 _ _ ?_)
    refine wp_seq_k fun K24 hK24 => ?_
    refine wp_seq_k fun K25 hK25 => ?_
    refine rg mixed y22 zz22 ?_
    refine .i (fo 0 (hbs rfl e9) Try.underlying33 rfl sz5 rfl) ?_
    refine .i (lo1 (hlc rfl) own_b9_22 trivial agg5 sz5 rfl) ?_
    refine .i (sp_neq (hlc rfl) Has.cst) ?_
    refine .done ⟨by kernel_rfl, fun a26 g W26 y26 zz26 hk hg hV hR hP => ?_⟩
    obtain ⟨e27, -, -, -⟩ := hV
    replace e7 := (hR 7 rfl).trans e7
    replace e19 := (hR 19 rfl).trans e19
    replace e20 := (hR 20 rfl).trans e20
    replace e21 := (hR 21 rfl).trans e21
    replace e9 := (hR 9 rfl).trans e9
    replace As7_16 := As7_16.ext hk
    replace D_v5_4 := D_v5_4.ext hk
    replace D_cn24_22 := D_cn24_22.ext hk
    replace D_ci24_22 := D_ci24_22.ext hk
    replace e27 := e27.q
    replace own_b9_22 := own_b9_22.ext hk
    replace kw := kw.x hk
    clear hR hk hg hP
    refine tail_nil (hK25 _ _ ?_)
    refine wp_cond_split e27 (fun hc => ?_) (fun hc => ?_)
    ·
     have h3 : ((itemsV x most)[k]'hlt).k ≠ 3 := by simp at hc; omega
     have hall : allT x.xs = false := allT_false (k := k) (by rw [← hiv]; exact hlt) (by simpa [hiv] using h3)
     have hf : textsE most x = 10 := by rw [textsE, if_neg (by simp [hi]), hall]; rfl
     have hv2 : textsL most x = [] := by rw [textsL, hf]; rfl
     refine wp_seq_k fun K27 hK27 => ?_
     refine rg mixed y26 zz26 ?_
     refine .i (sp_assign Has.cst) ?_
     refine .i (sp_assign Has.cst) ?_
     refine .done ⟨by kernel_rfl, fun a28 g W28 y28 zz28 hk hg hV hR hP => ?_⟩
     obtain ⟨e4, e3, -⟩ := hV
     replace As7_16 := As7_16.ext hk
     replace D_v5_4 := D_v5_4.ext hk
     replace D_cn24_22 := D_cn24_22.ext hk
     replace D_ci24_22 := D_ci24_22.ext hk
     have e3 : sl a28 3 = (.slice none 0 0) := e3
     have e4 : sl a28 4 = (.int .i64 (10)) := e4
     replace own_b9_22 := own_b9_22.ext hk
     replace kw := kw.x hk
     clear hR hk hg hP
     refine tail_nil (hK27 _ _ ?_)
     refine wp_ret ?_
     refine (show bodyPost Try.prog Try.f99 _ .ret _ _ from ret2 rfl zz28 e3 e4 ⟨_, rfl, kw, ?_⟩)
     refine ⟨_, by rw [hf], ?_⟩
     rw [hv2]
     exact rd_nil _
    ·
     have h3 : ((itemsV x most)[k]'hlt).k = 3 := by simp at hc; omega
     have hlx : k < x.xs.length := by rw [← hiv]; exact hlt
     refine wp_skip (hK24 _ _ ?_)
     refine wp_reg (fun k => k ∉ blks hds7_16) (Ψ := fun W => Arr W w.heap.size 9 1 (SF w (b9_22 :: (blks hds7_16 ++ []))) (List.map D.str (List.map V.t ((itemsV x most).take k))) vs7_16 hds7_16) mixed y26 zz26 (fun W W' k h => h.ext k) As7_16 ?_
     refine .i (sp_move (hbs rfl e7)) ?_
     refine .i (fo 2 (hbs rfl e9) Try.underlying33 rfl sz9 rfl) ?_
     refine .i (lo1 (hlc rfl) own_b9_22 nb_b9_22_ar15 agg9 sz9 rfl) ?_
     refine .op (φ := IsD (SF w (b9_22 :: (blks hds7_16 ++ []))) (strsD ([((itemsV (x) most)[k]'hlt).t]))) (st_d (sub_nbF (fun b hb => List.mem_cons_of_mem _ (List.mem_append_left _ hb)))) (sp_bsl (ds := [D.str (((itemsV (x) most)[k]'hlt).t)]) Try.underlying23 sz9 z9 (lbr rfl) (lbr rfl) ⟨rfl, ((hlc rfl).str ht_v24_22), trivial⟩ rfl (by simp [width]) (fr_sf kw (in_cons own_b9_22.lt (in_app As7_16.lt in_nil)))) ?_
     refine .appB (ds := List.map D.str (List.map V.t ((itemsV x most).take k))) (es := [D.str (((itemsV (x) most)[k]'hlt).t)]) (X := SF w (b9_22 :: (blks hds7_16 ++ []))) Try.underlying23 inf9 (lbr rfl) (hlc rfl) (hlc rfl) (sub_nbF (fun b hb => List.mem_cons_of_mem _ (List.mem_append_left _ hb))) (by simp [maxLen]; omega) (by simp; omega) kw.size ?_
     refine .done ⟨by kernel_rfl, fun a29 g W29 y29 zz29 hk hg hV hR hP => ?_⟩
     obtain ⟨e32, -, -, -, -, -⟩ := hV
     replace e7 := (hR 7 rfl).trans e7
     replace e19 := (hR 19 rfl).trans e19
     replace e20 := (hR 20 rfl).trans e20
     replace e21 := (hR 21 rfl).trans e21
     obtain ⟨v32_29, ev⟩ : ∃ v, sl a29 32 = v := ⟨_, rfl⟩
     rw [ev] at e32
     obtain ⟨hd32_29, A_32_29, hf32_29⟩ := e32
     have e32 := ev; clear ev
     obtain ⟨v32_29a, v32_29n, v32_29c, ev⟩ := arr_sl A_32_29; subst ev
     replace A_32_29 := arrF_new (M' := (b9_22 :: (blks hd32_29 ++ []))) A_32_29 (rep_cons (rep_app (rep_q fun _ h => h) rep_nil))
     replace A_32_29 : Arr W29 w.heap.size 9 1 (SF w (b9_22 :: (blks hd32_29 ++ []))) (List.map D.str ((List.map V.t ((itemsV x most).take k)) ++ [((itemsV (x) most)[k]'hlt).t])) (.slice v32_29a v32_29n v32_29c) hd32_29 := by first | exact A_32_29 | (rw [List.map_append]; exact A_32_29)
     have nb_b9_22_29 : b9_22 ∉ blks hd32_29 := nb_new nb_b9_22_ar15 own_b9_22.lt hf32_29
     replace D_v5_4 := sa_app (M' := (b9_22 :: (blks hd32_29 ++ []))) D_v5_4 hk (fun b hb => List.mem_cons_of_mem _ (List.mem_append_left _ hb)) (rep_cons (rep_app hf32_29 rep_nil))
     replace D_cn24_22 := sa_app (M' := (b9_22 :: (blks hd32_29 ++ []))) D_cn24_22 hk (fun b hb => List.mem_cons_of_mem _ (List.mem_append_left _ hb)) (rep_cons (rep_app hf32_29 rep_nil))
     replace D_ci24_22 := sa_app (M' := (b9_22 :: (blks hd32_29 ++ []))) D_ci24_22 hk (fun b hb => List.mem_cons_of_mem _ (List.mem_append_left _ hb)) (rep_cons (rep_app hf32_29 rep_nil))
     replace own_b9_22 := own_app own_b9_22 hk nb_b9_22_ar15
     replace kw := keeps_app kw hk As7_16.ge
     clear hR hk hg hP hf32_29 As7_16
     refine tail_assign (v := (.slice v32_29a v32_29n v32_29c)) e32 (by rw [y29]; exact Nat.le_of_ble_eq_true rfl) (fun a30 y30 zz30 e7 hr => ?_)
     replace y30 := y30.trans y29; replace zz30 := zz30.trans zz29
     replace e19 := (hr 19 (by decide)).trans e19
     replace e20 := (hr 20 (by decide)).trans e20
     replace e21 := (hr 21 (by decide)).trans e21
     replace e32 := (hr 32 (by decide)).trans e32
     clear hr
     refine tail_nil (hK20 _ _ ?_)
     refine rg mixed y30 zz30 ?_
     refine .i (sp_add (hbs rfl e21) Has.cst (i64_in (by omega))) ?_
     refine .i (sp_move (hlc rfl)) ?_
     refine .done ⟨by kernel_rfl, fun a31 g W31 y31 zz31 hk hg hV hR hP => ?_⟩
     obtain ⟨e21, -, -⟩ := hV
     replace e7 := (hR 7 rfl).trans e7
     replace e19 := (hR 19 rfl).trans e19
     replace e20 := (hR 20 rfl).trans e20
     replace A_32_29 := A_32_29.ext hk
     replace D_v5_4 := D_v5_4.ext hk
     replace e21 := e21.q
     replace own_b9_22 := own_b9_22.ext hk
     replace kw := kw.x hk
     clear hR hk hg hP
     rw [show (List.map V.t ((itemsV x most).take k)) ++ [((itemsV (x) most)[k]'hlt).t] = List.map V.t ((itemsV x most).take (k + 1)) by rw [List.take_succ_eq_append_getElem hlt, List.map_append]; rfl] at A_32_29
     exact tail_nil ⟨hlt, (.slice v32_29a v32_29n v32_29c), hd32_29, y31, zz31, kw, e7, e19, e20, (e21.trans (congrArg (Value.int .i64) (by simp))), (sa_less D_v5_4 (ls_skip (ls_keepA ls_nil))), (arrF_less A_32_29 (ls_skip (ls_keepA ls_nil))), fun i h hi => by rcases Nat.lt_succ_iff_lt_or_eq.1 hi with h1 | h1; exact hinv i h h1; subst h1; exact h3⟩
   ·
    have hge0 : ¬ k < (itemsV x most).length := by simpa using hc
    have hge : k = (itemsV x most).length := by omega
    have hall : allT x.xs = true := allT_true fun i h => by have := hinv i (by rw [hiv]; exact h) (by rw [hge, hiv]; exact h); simpa [hiv] using this
    have hf : textsE most x = 0 := by rw [textsE, if_neg (by simp [hi]), if_pos hall]
    have hv2 : textsL most x = x.xs.map V.t := by rw [textsL, if_pos hf]
    rw [show List.map V.t ((itemsV x most).take k) = List.map V.t x.xs by rw [hge, hiv, List.take_length]] at As7_16
    have D_vs7_16 : Rd W18 (SF w []) (strsD (List.map V.t x.xs)) vs7_16 := arrF_rd As7_16 ls_nil nin_nil
    obtain ⟨vs7_16a, vs7_16c, ev, D2⟩ := rdS_out D_vs7_16
    subst ev; replace D_vs7_16 := D2; clear D2
    replace D_v5_4 := sa_less (M' := []) D_v5_4 ls_nil
    refine wp_exit (hK12 _ _ ?_)
    refine wp_seq_k fun K32 hK32 => ?_
    refine rg mixed y18 zz18 ?_
    refine .i (sp_move (hbs rfl e7)) ?_
    refine .i (sp_assign (hlc rfl)) ?_
    refine .i (sp_assign Has.cst) ?_
    refine .done ⟨by kernel_rfl, fun a33 g W33 y33 zz33 hk hg hV hR hP => ?_⟩
    obtain ⟨e4, e3, -, -⟩ := hV
    replace D_v5_4 := D_v5_4.ext hk
    replace D_vs7_16 := D_vs7_16.ext hk
    replace e3 := e3.q
    have e4 : sl a33 4 = (.int .i64 (0)) := e4
    replace kw := kw.x hk
    clear hR hk hg hP
    refine tail_nil (hK32 _ _ ?_)
    refine wp_ret ?_
    refine (show bodyPost Try.prog Try.f99 _ .ret _ _ from ret2 rfl zz33 e3 e4 ⟨_, rfl, kw, ?_⟩)
    refine ⟨_, by rw [hf], ?_⟩
    rw [hv2]
    exact sf_fr D_vs7_16

end Go.Proofs.Ytnobijngkpflcaa
