import Derived.Test.YtnobijngkpflcaaC8
import Derived.Test.YtnobijngkpflcaaPureG
namespace Go.Proofs.Ytnobijngkpflcaa
open Go.Eng
set_option maxRecDepth 100000 in
theorem Get_ok (x : V) (name : ByteArray) (hx : x.wt ≤ 1073741824) (w : World) (S : BSet) (v : Value) (hS : ∀ b o, S b o → Cln o) (hv : Rd w S x.d v) : Calls Try.prog 101 #[v, .string name] w (Ret w fun r W => ∃ r1, r = .tuple #[r1, .bool (getB x name)] ∧ Rd W (Fr w) (getV x name).d r1) := by
  have hwx := wt_eq x
  have hwl := wts_len x.xs
  have hwn := wtN_len x.ns
  obtain ⟨cn0a, cn0c, ci0a, ci0c, ev, ht0, D_cn0, D_ci0⟩ := rdV_out (rd_arg hv)
  subst ev
  refine enter Try.func101 rfl Try.ntmps101 (lbr rfl) fun a0 y0 zz0 harg => ?_
  have e0 : sl a0 0 = (.agg #[(.int .u8 (x.k)), (.int .i64 (x.n)), (.string (x.t)), (.slice cn0a (x.ns.length) cn0c), (.slice ci0a (x.xs.length) ci0c)]) := harg 0 (lbr rfl)
  have e1 : sl a0 1 = (.string (name)) := harg 1 (lbr rfl)
  have kw := Keeps.refl All w
  clear harg
  refine wp_seq_k fun K1 hK1 => ?_
  refine rg mixed y0 zz0 ?_
  refine .boxOp (v := (.agg #[(.int .u8 (x.k)), (.int .i64 (x.n)), (.string (x.t)), (.slice cn0a (x.ns.length) cn0c), (.slice ci0a (x.xs.length) ci0c)])) (hbs rfl e0) ?_
  refine .alloc z33 ?_
  refine .i (sp_assign Has.cst) ?_
  refine .done ⟨by kernel_rfl, fun a2 g W2 y2 zz2 hk hg hV hR hP => ?_⟩
  obtain ⟨-, ⟨b4_2, e4, hb4, own_b4_2⟩, ⟨b2_2, e2, hb2, own_b2_2⟩, -⟩ := hV
  have lo_b4_2 : w.heap.size ≤ b4_2 := Nat.le_trans kw.size (hg.lo _ _ hb4)
  have own_b4_2 : Own W2 b4_2 [(.int .u8 (0)), (.int .i64 (0)), (.string (⟨#[]⟩)), (.slice none 0 0), (.slice none 0 0)] 33 := own_b4_2
  have lo_b2_2 : w.heap.size ≤ b2_2 := Nat.le_trans kw.size (hg.lo _ _ hb2)
  have own_b2_2 : Own W2 b2_2 [(.int .u8 (x.k)), (.int .i64 (x.n)), (.string (x.t)), (.slice cn0a (x.ns.length) cn0c), (.slice ci0a (x.xs.length) ci0c)] 33 := own_b2_2
  have ne_b4_2_b2_2 : b4_2 ≠ b2_2 := fun h => by have := hg.inj _ _ _ hb4 (h ▸ hb2); cases this
  replace e1 := (hR 1 rfl).trans e1
  replace D_cn0 := sa_more D_cn0 hk [b4_2, b2_2] (in_cons (hg.lo _ _ hb4) (in_cons (hg.lo _ _ hb2) in_nil))
  replace D_ci0 := sa_more D_ci0 hk [b4_2, b2_2] (in_cons (hg.lo _ _ hb4) (in_cons (hg.lo _ _ hb2) in_nil))
  replace kw := kw.x hk
  clear hR hk hg hP hb4 hb2
  refine tail_nil (hK1 _ _ ?_)
  refine wp_seq_k fun K3 hK3 => ?_
  refine wp_seq_k fun K4 hK4 => ?_
  refine rg mixed y2 zz2 ?_
  refine .i (fo 0 (hbs rfl e2) Try.underlying33 rfl sz5 rfl) ?_
  refine .i (lo1 (hlc rfl) own_b2_2 trivial agg5 sz5 rfl) ?_
  refine .i (sp_neq (hlc rfl) Has.cst) ?_
  refine .done ⟨by kernel_rfl, fun a5 g W5 y5 zz5 hk hg hV hR hP => ?_⟩
  obtain ⟨e10, -, -, -⟩ := hV
  replace e1 := (hR 1 rfl).trans e1
  replace e4 := (hR 4 rfl).trans e4
  replace e2 := (hR 2 rfl).trans e2
  replace D_cn0 := D_cn0.ext hk
  replace D_ci0 := D_ci0.ext hk
  have e10 : sl a5 10 = (.bool ((x.k : Int) != (5 : Int))) := e10
  replace own_b4_2 := own_b4_2.ext hk
  replace own_b2_2 := own_b2_2.ext hk
  replace kw := kw.x hk
  clear hR hk hg hP
  refine tail_nil (hK4 _ _ ?_)
  refine wp_cond_split e10 (fun hc => ?_) (fun hc => ?_)
  ·
   have hk : x.k ≠ 5 := by simp at hc; omega
   have hb : getB x name = false := by rw [getB, if_pos hk]
   have hv2 : getV x name = V.mk 0 0 ⟨#[]⟩ [] [] := by rw [getV, if_pos hk]; rfl
   refine wp_seq_k fun K6 hK6 => ?_
   refine rg mixed y5 zz5 ?_
   refine .i (v := (.agg #[(.int .u8 (0)), (.int .i64 (0)), (.string (⟨#[]⟩)), (.slice none 0 0), (.slice none 0 0)])) (sp_build (vs := []) Try.underlying33 z33 (pl33 Try.underlying33) trivial rfl) ?_
   refine .done ⟨by kernel_rfl, fun a7 g W7 y7 zz7 hk hg hV hR hP => ?_⟩
   obtain ⟨e11, -⟩ := hV
   replace e4 := (hR 4 rfl).trans e4
   replace D_cn0 := D_cn0.ext hk
   replace D_ci0 := D_ci0.ext hk
   replace e11 := e11.q
   replace own_b4_2 := own_b4_2.ext hk
   replace own_b2_2 := own_b2_2.ext hk
   replace kw := kw.x hk
   clear hR hk hg hP
   refine tail_store (b := b4_2) (o := 0) (v := (.agg #[(.int .u8 (0)), (.int .i64 (0)), (.string (⟨#[]⟩)), (.slice none 0 0), (.slice none 0 0)])) e4 e11 sz33 rfl own_b4_2 (lbr rfl) (all_cons rfl (all_cons rfl (all_cons rfl (all_cons rfl (all_cons rfl all_nil))))) (fun W8 hs own_b4_2 => ?_)
   have own_b4_2 : Own W8 b4_2 [(.int .u8 (0)), (.int .i64 (0)), (.string (⟨#[]⟩)), (.slice none 0 0), (.slice none 0 0)] 33 := own_b4_2
   replace own_b2_2 := own_store own_b2_2 hs ne_b4_2_b2_2.symm
   replace D_cn0 := sa_store D_cn0 hs (by simp)
   replace D_ci0 := sa_store D_ci0 hs (by simp)
   replace kw := keeps_store kw hs lo_b4_2
   clear hs
   refine tail_assign (v := (.bool (false))) rfl (by rw [y7]; exact Nat.le_of_ble_eq_true rfl) (fun a9 y9 zz9 e5 hr => ?_)
   replace y9 := y9.trans y7; replace zz9 := zz9.trans zz7
   replace e4 := (hr 4 (by decide)).trans e4
   replace e11 := (hr 11 (by decide)).trans e11
   clear hr
   refine tail_nil (hK6 _ _ ?_)
   refine wp_ret ?_
   refine (show bodyPost Try.prog Try.f101 _ .ret _ _ from retCT (v := (.agg #[(.int .u8 (0)), (.int .i64 (0)), (.string (⟨#[]⟩)), (.slice none 0 0), (.slice none 0 0)])) rfl zz9 e4 own_b4_2 agg33 sz33 rfl (fun h => by cases h) rfl e5 ⟨_, rfl, kw, ?_⟩)
   refine ⟨_, by rw [hb], ?_⟩
   rw [hv2]
   exact sf_fr (rdV_mk (lbr rfl) (rd_nil _) (rd_nil _) : Rd W8 (SF w [b4_2, b2_2]) (V.d (V.mk (0) (0) (⟨#[]⟩) ([]) ([]))) _)
  ·
   have hk : ¬ x.k ≠ 5 := by simp at hc; omega
   refine wp_skip (hK3 _ _ ?_)
   refine wp_seq_k fun K10 hK10 => ?_
   refine rg mixed y5 zz5 ?_
   refine .i (fo 3 (hbs rfl e2) Try.underlying33 rfl sz23 rfl) ?_
   refine .i (lo1 (hlc rfl) own_b2_2 trivial agg23 sz23 rfl) ?_
   refine .i (sp_move (hbs rfl e1)) ?_
   refine .i (v := (.tuple #[(.int .i64 (findI x.ns name)), (.bool (findB x.ns name))])) (sp_call2 (φ1 := IsD (SA w S [b4_2, b2_2]) (strsD (x.ns))) (φ2 := Is (.string (name))) ent145 ((hlc rfl).dat D_cn0 sub_all) (hlc rfl) (fun g u1 u2 W hk hgk h1 h2 => by have h2 : u2 = _ := h2; subst u2; exact find_ok (x.ns) (name) (by omega) W _ _ h1)) ?_
   refine .i (sp_move (hlc rfl)) ?_
   refine .i (v := (.int .i64 (findI x.ns name))) (sp_extT (hlc rfl) rfl) ?_
   refine .i (v := (.bool (findB x.ns name))) (sp_extT (hlc rfl) rfl) ?_
   refine .i (sp_assign (hlc rfl)) ?_
   refine .i (sp_assign (hlc rfl)) ?_
   refine .done ⟨by kernel_rfl, fun a11 g W11 y11 zz11 hk hg hV hR hP => ?_⟩
   obtain ⟨e7, e6, -, -, -, -, -, -, -, -⟩ := hV
   replace e4 := (hR 4 rfl).trans e4
   replace e2 := (hR 2 rfl).trans e2
   replace D_cn0 := D_cn0.ext hk
   replace D_ci0 := D_ci0.ext hk
   have e6 : sl a11 6 = (.int .i64 (findI x.ns name)) := e6
   have e7 : sl a11 7 = (.bool (findB x.ns name)) := e7
   replace own_b4_2 := own_b4_2.ext hk
   replace own_b2_2 := own_b2_2.ext hk
   replace kw := kw.x hk
   clear hR hk hg hP
   refine tail_nil (hK10 _ _ ?_)
   refine wp_seq_k fun K12 hK12 => ?_
   refine wp_seq_k fun K13 hK13 => ?_
   refine rg mixed y11 zz11 ?_
   refine .i (sp_move (hbs rfl e7)) ?_
   refine .i (sp_not (hlc rfl)) ?_
   refine .i (sp_move (hlc rfl)) ?_
   refine .e (t := 21) rfl (hlc rfl) (fun hg => sp_move (hbs rfl e6)) ?_
   refine .e (t := 21) rfl (hlc rfl) (fun hg => fo 4 (hbs rfl e2) Try.underlying33 rfl sz31 rfl) ?_
   refine .e (t := 21) rfl (hlc rfl) (fun hg => lo1 ((hlc rfl).undE hg) own_b2_2 trivial agg31 sz31 rfl) ?_
   refine .e (t := 21) rfl (hlc rfl) (fun hg => sp_lenVs Try.underlying31 (((hlc rfl).undE hg).dat D_ci0 sub_all)) ?_
   refine .e (t := 21) rfl (hlc rfl) (fun hg => sp_geq ((hlc rfl).undE hg) ((hlc rfl).undE hg)) ?_
   refine .i (sp_or (hlc rfl) ((hlc rfl).weak fun hq => hq)) ?_
   refine .done ⟨by kernel_rfl, fun a14 g W14 y14 zz14 hk hg hV hR hP => ?_⟩
   obtain ⟨e27, -, -, -, -, -, -, -, -, -⟩ := hV
   replace e4 := (hR 4 rfl).trans e4
   replace e2 := (hR 2 rfl).trans e2
   replace e6 := (hR 6 rfl).trans e6
   replace D_cn0 := D_cn0.ext hk
   replace D_ci0 := D_ci0.ext hk
   replace e27 := e27.q
   replace own_b4_2 := own_b4_2.ext hk
   replace own_b2_2 := own_b2_2.ext hk
   replace kw := kw.x hk
   clear hR hk hg hP
   refine tail_nil (hK13 _ _ ?_)
   refine wp_cond_split e27 (fun hc => ?_) (fun hc => ?_)
   ·
    have hn : findB x.ns name = false ∨ (x.xs.length : Int) ≤ findI x.ns name := by rcases (Bool.or_eq_true _ _).mp hc with h | h; exact .inl (by simpa using h); exact .inr (of_decide_eq_true h)
    have hb : getB x name = false := by rw [getB, if_neg hk, if_pos hn]
    have hv2 : getV x name = V.mk 0 0 ⟨#[]⟩ [] [] := by rw [getV, if_neg hk, if_pos hn]; rfl
    refine wp_seq_k fun K15 hK15 => ?_
    refine rg mixed y14 zz14 ?_
    refine .i (v := (.agg #[(.int .u8 (0)), (.int .i64 (0)), (.string (⟨#[]⟩)), (.slice none 0 0), (.slice none 0 0)])) (sp_build (vs := []) Try.underlying33 z33 (pl33 Try.underlying33) trivial rfl) ?_
    refine .done ⟨by kernel_rfl, fun a16 g W16 y16 zz16 hk hg hV hR hP => ?_⟩
    obtain ⟨e28, -⟩ := hV
    replace e4 := (hR 4 rfl).trans e4
    replace D_cn0 := D_cn0.ext hk
    replace D_ci0 := D_ci0.ext hk
    replace e28 := e28.q
    replace own_b4_2 := own_b4_2.ext hk
    replace own_b2_2 := own_b2_2.ext hk
    replace kw := kw.x hk
    clear hR hk hg hP
    refine tail_store (b := b4_2) (o := 0) (v := (.agg #[(.int .u8 (0)), (.int .i64 (0)), (.string (⟨#[]⟩)), (.slice none 0 0), (.slice none 0 0)])) e4 e28 sz33 rfl own_b4_2 (lbr rfl) (all_cons rfl (all_cons rfl (all_cons rfl (all_cons rfl (all_cons rfl all_nil))))) (fun W17 hs own_b4_2 => ?_)
    have own_b4_2 : Own W17 b4_2 [(.int .u8 (0)), (.int .i64 (0)), (.string (⟨#[]⟩)), (.slice none 0 0), (.slice none 0 0)] 33 := own_b4_2
    replace own_b2_2 := own_store own_b2_2 hs ne_b4_2_b2_2.symm
    replace D_cn0 := sa_store D_cn0 hs (by simp)
    replace D_ci0 := sa_store D_ci0 hs (by simp)
    replace kw := keeps_store kw hs lo_b4_2
    clear hs
    refine tail_assign (v := (.bool (false))) rfl (by rw [y16]; exact Nat.le_of_ble_eq_true rfl) (fun a18 y18 zz18 e5 hr => ?_)
    replace y18 := y18.trans y16; replace zz18 := zz18.trans zz16
    replace e4 := (hr 4 (by decide)).trans e4
    replace e28 := (hr 28 (by decide)).trans e28
    clear hr
    refine tail_nil (hK15 _ _ ?_)
    refine wp_ret ?_
    refine (show bodyPost Try.prog Try.f101 _ .ret _ _ from retCT (v := (.agg #[(.int .u8 (0)), (.int .i64 (0)), (.string (⟨#[]⟩)), (.slice none 0 0), (.slice none 0 0)])) rfl zz18 e4 own_b4_2 agg33 sz33 rfl (fun h => by cases h) rfl e5 ⟨_, rfl, kw, ?_⟩)
    refine ⟨_, by rw [hb], ?_⟩
    rw [hv2]
    exact sf_fr (rdV_mk (lbr rfl) (rd_nil _) (rd_nil _) : Rd W17 (SF w [b4_2, b2_2]) (V.d (V.mk (0) (0) (⟨#[]⟩) ([]) ([]))) _)
   ·
    have hfb : findB x.ns name = true := by simpa using (Bool.or_eq_false_iff.1 hc).1
    have hfi := of_decide_eq_false (Bool.or_eq_false_iff.1 hc).2
    have hn : ¬ (findB x.ns name = false ∨ (x.xs.length : Int) ≤ findI x.ns name) := by rintro (h | h); rw [hfb] at h; cases h; exact hfi h
    obtain ⟨at_, hat, hatn⟩ := find_at hfb
    have hatx : at_ < x.xs.length := by omega
    have hb : getB x name = true := by rw [getB, if_neg hk, if_neg hn]
    have hv2 := getV_in hk hn hat hatx
    have hwm := wts_mem hatx
    refine wp_skip (hK12 _ _ ?_)
    refine wp_seq_k fun K19 hK19 => ?_
    refine rg mixed y14 zz14 ?_
    refine .i (fo 4 (hbs rfl e2) Try.underlying33 rfl sz31 rfl) ?_
    refine .i (lo1 (hlc rfl) own_b2_2 trivial agg31 sz31 rfl) ?_
    refine .i (sp_move (hbs rfl e6)) ?_
    refine .rf (sp_indexV (i := at_) ((hlc rfl).dat D_ci0 sub_all) (hlc rfl) Try.underlying31 sz33 hat hatx) ?_
    refine .da (sp_loadV (hlc rfl) agg33 sz33) ?_
    refine .da (X := Fr W14) (e := V.d (x.xs[at_]'hatx)) (sp_call1 (φ1 := IsD (SA w S [b4_2, b2_2]) (V.d (x.xs[at_]'hatx))) ent79 (hlc rfl) (fun g u1 W hk hgk h1 => (Copy_ok (x.xs[at_]'hatx) (by first | omega | exact Nat.le_of_ble_eq_true (by kernel_rfl)) W _ _ (fun b o h => sa_cln hS b o h.1) h1).mono (ret_fr hk hgk))) ?_
    refine .done ⟨by kernel_rfl, fun a20 g W20 y20 zz20 hk hg hV hR hP => ?_⟩
    obtain ⟨e34, -, -, -, -, -, -⟩ := hV
    replace e4 := (hR 4 rfl).trans e4
    replace D_cn0 := D_cn0.ext hk
    replace D_ci0 := D_ci0.ext hk
    obtain ⟨v34_20, ev⟩ : ∃ v, sl a20 34 = v := ⟨_, rfl⟩
    rw [ev] at e34
    have D_v34_20 : Rd W20 (SF w [b4_2, b2_2]) (V.d (x.xs[at_]'hatx)) v34_20 := fr_end (M := [b4_2, b2_2]) e34 kw [] in_nil (in_cons own_b4_2.lt (in_cons own_b2_2.lt in_nil))
    replace e34 := ev; clear ev
    obtain ⟨cn34_20a, cn34_20c, ci34_20a, ci34_20c, ev, ht_v34_20, D_cn34_20, D_ci34_20⟩ := rdV_out D_v34_20
    subst ev; clear D_v34_20
    replace own_b4_2 := own_b4_2.ext hk
    replace own_b2_2 := own_b2_2.ext hk
    replace kw := kw.x hk
    clear hR hk hg hP
    refine tail_store (b := b4_2) (o := 0) (v := (.agg #[(.int .u8 ((x.xs[at_]'hatx).k)), (.int .i64 ((x.xs[at_]'hatx).n)), (.string ((x.xs[at_]'hatx).t)), (.slice cn34_20a (((x.xs[at_]'hatx).ns).length) cn34_20c), (.slice ci34_20a (((x.xs[at_]'hatx).xs).length) ci34_20c)])) e4 e34 sz33 rfl own_b4_2 (lbr rfl) (all_cons rfl (all_cons rfl (all_cons rfl (all_cons rfl (all_cons rfl all_nil))))) (fun W21 hs own_b4_2 => ?_)
    have own_b4_2 : Own W21 b4_2 [(.int .u8 ((x.xs[at_]'hatx).k)), (.int .i64 ((x.xs[at_]'hatx).n)), (.string ((x.xs[at_]'hatx).t)), (.slice cn34_20a (((x.xs[at_]'hatx).ns).length) cn34_20c), (.slice ci34_20a (((x.xs[at_]'hatx).xs).length) ci34_20c)] 33 := own_b4_2
    replace own_b2_2 := own_store own_b2_2 hs ne_b4_2_b2_2.symm
    replace D_cn0 := sa_store D_cn0 hs (by simp)
    replace D_ci0 := sa_store D_ci0 hs (by simp)
    replace D_cn34_20 := sf_store D_cn34_20 hs (by simp)
    replace D_ci34_20 := sf_store D_ci34_20 hs (by simp)
    replace kw := keeps_store kw hs lo_b4_2
    clear hs
    refine tail_assign (v := (.bool (true))) rfl (by rw [y20]; exact Nat.le_of_ble_eq_true rfl) (fun a22 y22 zz22 e5 hr => ?_)
    replace y22 := y22.trans y20; replace zz22 := zz22.trans zz20
    replace e4 := (hr 4 (by decide)).trans e4
    replace e34 := (hr 34 (by decide)).trans e34
    clear hr
    refine tail_nil (hK19 _ _ ?_)
    refine wp_ret ?_
    refine (show bodyPost Try.prog Try.f101 _ .ret _ _ from retCT (v := (.agg #[(.int .u8 ((x.xs[at_]'hatx).k)), (.int .i64 ((x.xs[at_]'hatx).n)), (.string ((x.xs[at_]'hatx).t)), (.slice cn34_20a (((x.xs[at_]'hatx).ns).length) cn34_20c), (.slice ci34_20a (((x.xs[at_]'hatx).xs).length) ci34_20c)])) rfl zz22 e4 own_b4_2 agg33 sz33 rfl (fun h => by cases h) rfl e5 ⟨_, rfl, kw, ?_⟩)
    refine ⟨_, by rw [hb], ?_⟩
    rw [hv2]
    exact sf_fr (rdV_in (x := (x.xs[at_]'hatx)) ht_v34_20 D_cn34_20 D_ci34_20 : Rd W21 (SF w [b4_2, b2_2]) (V.d ((x.xs[at_]'hatx))) _)

end Go.Proofs.Ytnobijngkpflcaa
