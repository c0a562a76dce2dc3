import Derived.Test.YtnobijngkpflcaaH7
namespace Go.Proofs.Ytnobijngkpflcaa
open Go.Eng
set_option maxRecDepth 100000 in
theorem authOf_ok (x : V) (hx : x.wt ≤ 1073741824) (w : World) (S : BSet) (v : Value) (hS : ∀ b o, S b o → Cln o) (hv : Rd w S x.d v) : Calls Try.prog 16 #[v] w (Ret w fun r W => ∃ r1, r = .tuple #[r1, .int .i64 (ofAE x)] ∧ Rd W (Fr w) (ofAV x).d r1) := by
  by_cases hof : ofE x = 0
  · skip
    obtain ⟨cn0a, cn0c, ci0a, ci0c, ev, ht0, D_cn0, D_ci0⟩ := rdV_out (rd_arg hv)
    subst ev
    refine enter Try.func16 rfl Try.ntmps16 (lbr rfl) fun a0 y0 zz0 harg => ?_
    have e0 : sl a0 0 = (.agg #[(.int .u8 (x.k)), (.int .i64 (x.n)), (.string (x.t)), (.slice cn0a (x.ns.length) cn0c), (.slice ci0a (x.xs.length) ci0c)]) := harg 0 (lbr rfl)
    have kw := Keeps.refl All w
    clear harg
    refine wp_seq_k fun K1 hK1 => ?_
    refine rg mixed y0 zz0 ?_
    refine .boxOp (v := (.agg #[(.int .u8 (x.k)), (.int .i64 (x.n)), (.string (x.t)), (.slice cn0a (x.ns.length) cn0c), (.slice ci0a (x.xs.length) ci0c)])) (hbs rfl e0) ?_
    refine .alloc z27 ?_
    refine .i (sp_assign Has.cst) ?_
    refine .done ⟨by kernel_rfl, fun a2 g W2 y2 zz2 hk hg hV hR hP => ?_⟩
    obtain ⟨-, ⟨b2_2, e2, hb2, own_b2_2⟩, ⟨b1_2, e1, hb1, own_b1_2⟩, -⟩ := hV
    have lo_b2_2 : w.heap.size ≤ b2_2 := Nat.le_trans kw.size (hg.lo _ _ hb2)
    have own_b2_2 : Own W2 b2_2 [(.int .i64 (0)), (.slice none 0 0)] 27 := own_b2_2
    have lo_b1_2 : w.heap.size ≤ b1_2 := Nat.le_trans kw.size (hg.lo _ _ hb1)
    have own_b1_2 : Own W2 b1_2 [(.int .u8 (x.k)), (.int .i64 (x.n)), (.string (x.t)), (.slice cn0a (x.ns.length) cn0c), (.slice ci0a (x.xs.length) ci0c)] 33 := own_b1_2
    have ne_b2_2_b1_2 : b2_2 ≠ b1_2 := fun h => by have := hg.inj _ _ _ hb2 (h ▸ hb1); cases this
    replace D_cn0 := sa_more D_cn0 hk [b2_2, b1_2] (in_cons (hg.lo _ _ hb2) (in_cons (hg.lo _ _ hb1) in_nil))
    replace D_ci0 := sa_more D_ci0 hk [b2_2, b1_2] (in_cons (hg.lo _ _ hb2) (in_cons (hg.lo _ _ hb1) in_nil))
    replace kw := kw.x hk
    clear hR hk hg hP hb2 hb1
    refine tail_nil (hK1 _ _ ?_)
    refine wp_seq_k fun K3 hK3 => ?_
    refine wp_seq_k fun K4 hK4 => ?_
    refine rg mixed y2 zz2 ?_
    refine .i (v := (.agg #[(.int .u8 (x.k)), (.int .i64 (x.n)), (.string (x.t)), (.slice cn0a (x.ns.length) cn0c), (.slice ci0a (x.xs.length) ci0c)])) (loA (hbs rfl e1) own_b1_2 trivial agg33 sz33 rfl rfl) ?_
    refine .i (v := (.bool (mayB (x)))) (sp_call1 (φ1 := IsD (SA w S [b2_2, b1_2]) (V.d (x))) ent76 ((hlc rfl).dat (rdV_in (x := x) ht0 D_cn0 D_ci0 : Rd W2 (SA w S [b2_2, b1_2]) (V.d (x)) _) sub_all) (fun g u1 W hk hgk h1 => May_ok (x) (Nat.le_trans (cnt_wt x) hx) W _ _ h1)) ?_
    refine .i (sp_not (hlc rfl)) ?_
    refine .done ⟨by kernel_rfl, fun a5 g W5 y5 zz5 hk hg hV hR hP => ?_⟩
    obtain ⟨e9, -, -, -⟩ := hV
    replace e2 := (hR 2 rfl).trans e2
    replace e1 := (hR 1 rfl).trans e1
    replace D_cn0 := D_cn0.ext hk
    replace D_ci0 := D_ci0.ext hk
    have e9 : sl a5 9 = (.bool (!(mayB (x)))) := e9
    replace own_b2_2 := own_b2_2.ext hk
    replace own_b1_2 := own_b1_2.ext hk
    replace kw := kw.x hk
    clear hR hk hg hP
    refine tail_nil (hK4 _ _ ?_)
    refine wp_cond_split e9 (fun hc => ?_) (fun hc => ?_)
    ·
     have hm : mayB x = false := by simpa using hc
     have hoe : ofAE x = 3 := by rw [ofAE, if_pos hm]
     have hov : ofAV x = ⟨0, []⟩ := by rw [ofAV, hoe]; rfl
     refine wp_seq_k fun K6 hK6 => ?_
     refine rg mixed y5 zz5 ?_
     refine .i (v := (.agg #[(.int .i64 (0)), (.slice none 0 0)])) (sp_build (vs := []) Try.underlying27 z27 (pl27 Try.underlying27) trivial rfl) ?_
     refine .done ⟨by kernel_rfl, fun a7 g W7 y7 zz7 hk hg hV hR hP => ?_⟩
     obtain ⟨e10, -⟩ := hV
     replace e2 := (hR 2 rfl).trans e2
     replace D_cn0 := D_cn0.ext hk
     replace D_ci0 := D_ci0.ext hk
     replace e10 := e10.q
     replace own_b2_2 := own_b2_2.ext hk
     replace own_b1_2 := own_b1_2.ext hk
     replace kw := kw.x hk
     clear hR hk hg hP
     refine tail_store (b := b2_2) (o := 0) (v := (.agg #[(.int .i64 (0)), (.slice none 0 0)])) e2 e10 sz27 rfl own_b2_2 (lbr rfl) (all_cons rfl (all_cons rfl all_nil)) (fun W8 hs own_b2_2 => ?_)
     have own_b2_2 : Own W8 b2_2 [(.int .i64 (0)), (.slice none 0 0)] 27 := own_b2_2
     replace own_b1_2 := own_store own_b1_2 hs ne_b2_2_b1_2.symm
     replace D_cn0 := sa_store D_cn0 hs (by simp)
     replace D_ci0 := sa_store D_ci0 hs (by simp)
     replace kw := keeps_store kw hs lo_b2_2
     clear hs
     refine tail_assign (v := (.int .i64 (3))) rfl (by rw [y7]; exact Nat.le_of_ble_eq_true rfl) (fun a9 y9 zz9 e3 hr => ?_)
     replace y9 := y9.trans y7; replace zz9 := zz9.trans zz7
     replace e2 := (hr 2 (by decide)).trans e2
     replace e10 := (hr 10 (by decide)).trans e10
     clear hr
     refine tail_nil (hK6 _ _ ?_)
     refine wp_ret ?_
     refine (show bodyPost Try.prog Try.f16 _ .ret _ _ from retCT (v := (.agg #[(.int .i64 (0)), (.slice none 0 0)])) rfl zz9 e2 own_b2_2 agg27 sz27 rfl (fun h => by cases h) rfl e3 ⟨_, rfl, kw, ?_⟩)
     refine ⟨_, by rw [hoe], ?_⟩
     rw [hov]
     exact sf_fr (rdAu_mk (rd_nil _) : Rd W8 (SF w [b2_2, b1_2]) (Au.d (Au.mk (0) ([]))) _)
    ·
     have hm : ¬ mayB x = false := by simpa using hc
     refine wp_skip (hK3 _ _ ?_)
     refine wp_seq_k fun K10 hK10 => ?_
     refine rg mixed y5 zz5 ?_
     refine .i (v := (.agg #[(.int .u8 (x.k)), (.int .i64 (x.n)), (.string (x.t)), (.slice cn0a (x.ns.length) cn0c), (.slice ci0a (x.xs.length) ci0c)])) (loA (hbs rfl e1) own_b1_2 trivial agg33 sz33 rfl rfl) ?_
     refine .op (φ := IsPk W5 74 (x) ([]) (0)) st_pk (sp_call1 (φ1 := IsD (SA w S [b2_2, b1_2]) (V.d (x))) ent21 ((hlc rfl).dat (rdV_in (x := x) ht0 D_cn0 D_ci0 : Rd W5 (SA w S [b2_2, b1_2]) (V.d (x)) _) sub_all) (fun g u1 W hk hgk h1 => (Of_ok (x) hx hof W _ _ (fun b o h => sa_cln hS b o h.1) h1).mono (fun _ _ ⟨v, h1, h2, h3⟩ => ⟨v, h1, h2, pk_up hk h3⟩))) ?_
     refine .done ⟨by kernel_rfl, fun a11 g W11 y11 zz11 hk hg hV hR hP => ?_⟩
     obtain ⟨e12, -, -⟩ := hV
     replace e2 := (hR 2 rfl).trans e2
     obtain ⟨bo12_11, bm12_11, cn12_11v, ci12_11v, e12, lr_bo12_11, lr_bm12_11, ne_bo12_11_bm12_11, own_bo12_11, own_bm12_11, D_cn12_11, D_ci12_11, tb12_11⟩ := e12
     obtain ⟨cn12_11a, cn12_11c, ev, D2⟩ := rdS_out D_cn12_11; subst ev; replace D_cn12_11 := D2; clear D2
     obtain ⟨ci12_11a, ci12_11c, ev, D2⟩ := rdVs_out D_ci12_11; subst ev; replace D_ci12_11 := D2; clear D2
     have e12 : sl a11 12 = (.pointer (some ⟨bo12_11, 0, none⟩)) := e12
     have lo_bo12_11 : w.heap.size ≤ bo12_11 := Nat.le_trans kw.size lr_bo12_11
     have ne_b2_2_bo12_11 : b2_2 ≠ bo12_11 := Nat.ne_of_lt (Nat.lt_of_lt_of_le own_b2_2.lt lr_bo12_11)
     have ne_b1_2_bo12_11 : b1_2 ≠ bo12_11 := Nat.ne_of_lt (Nat.lt_of_lt_of_le own_b1_2.lt lr_bo12_11)
     have lo_bm12_11 : w.heap.size ≤ bm12_11 := Nat.le_trans kw.size lr_bm12_11
     have ne_b2_2_bm12_11 : b2_2 ≠ bm12_11 := Nat.ne_of_lt (Nat.lt_of_lt_of_le own_b2_2.lt lr_bm12_11)
     have ne_b1_2_bm12_11 : b1_2 ≠ bm12_11 := Nat.ne_of_lt (Nat.lt_of_lt_of_le own_b1_2.lt lr_bm12_11)
     replace D_cn0 : Rd W11 (SA w S [bo12_11, bm12_11, b2_2, b1_2]) (strsD (x.ns)) (.slice cn0a (x.ns.length) cn0c) := sa_more D_cn0 hk [bo12_11, bm12_11] (in_cons lr_bo12_11 (in_cons lr_bm12_11 in_nil))
     replace D_ci0 : Rd W11 (SA w S [bo12_11, bm12_11, b2_2, b1_2]) (valsD (x.xs)) (.slice ci0a (x.xs.length) ci0c) := sa_more D_ci0 hk [bo12_11, bm12_11] (in_cons lr_bo12_11 (in_cons lr_bm12_11 in_nil))
     replace D_cn12_11 : Rd W11 (SF w [bo12_11, bm12_11, b2_2, b1_2]) (strsD (x.ns)) (.slice cn12_11a (x.ns.length) cn12_11c) := pk_data kw (in_cons own_b2_2.lt (in_cons own_b1_2.lt in_nil)) D_cn12_11
     replace D_ci12_11 : Rd W11 (SF w [bo12_11, bm12_11, b2_2, b1_2]) (valsD (x.xs)) (.slice ci12_11a (x.xs.length) ci12_11c) := pk_data kw (in_cons own_b2_2.lt (in_cons own_b1_2.lt in_nil)) D_ci12_11
     have own_bo12_11 : Own W11 bo12_11 [(.int .u8 (x.k)), (.int .i64 (x.n)), (.string (x.t)), (.slice cn12_11a (x.ns.length) cn12_11c), (.slice ci12_11a (x.xs.length) ci12_11c), (.map (some bm12_11)), (.int .i64 (0))] 74 := own_bo12_11
     have own_bm12_11 : OwnM W11 bm12_11 ([]) := own_bm12_11
     replace own_b2_2 := own_b2_2.ext hk
     replace own_b1_2 := own_b1_2.ext hk
     replace kw := kw.x hk
     clear hR hk hg hP lr_bo12_11 lr_bm12_11
     refine tail_assign (v := (.pointer (some ⟨bo12_11, 0, none⟩))) e12 (by rw [y11]; exact Nat.le_of_ble_eq_true rfl) (fun a12 y12 zz12 e4 hr => ?_)
     replace y12 := y12.trans y11; replace zz12 := zz12.trans zz11
     replace e2 := (hr 2 (by decide)).trans e2
     replace e12 := (hr 12 (by decide)).trans e12
     clear hr
     refine tail_nil (hK10 _ _ ?_)
     refine wp_seq_k fun K13 hK13 => ?_
     refine wp_reg (fun k => k ∉ [bo12_11, bm12_11]) (Ψ := fun W => Own W bo12_11 [(.int .u8 (x.k)), (.int .i64 (x.n)), (.string (x.t)), (.slice cn12_11a (x.ns.length) cn12_11c), (.slice ci12_11a (x.xs.length) ci12_11c), (.map (some bm12_11)), (.int .i64 (0))] 74 ∧ OwnM W bm12_11 ([])) mixed y12 zz12 (stE_and stE_own stE_ownM) ⟨own_bo12_11, own_bm12_11⟩ ?_
     refine .i (sp_move (hbs rfl e4)) ?_
     refine .callL1 (φ1 := Is (.pointer (some ⟨bo12_11, 0, none⟩))) (φ := IsD (Fr W11) (Au.d (partA x 0))) (Ψ' := fun W => Own W bo12_11 [(.int .u8 (x.k)), (.int .i64 (x.n)), (.string (x.t)), (.slice cn12_11a (x.ns.length) cn12_11c), (.slice ci12_11a (x.xs.length) ci12_11c), (.map (some bm12_11)), (.int .i64 (partE x 0))] 74 ∧ OwnM W bm12_11 (partM x ([]) 0)) ent23 (hlc rfl) (st_d (sub_frnl (in_cons own_bo12_11.lt (in_cons own_bm12_11.lt in_nil)))) (stE_and stE_own stE_ownM) (fun g u1 W hk hg h1 hP => by have h1 : u1 = _ := h1; subst u1; exact (Part_ok (x) ([]) (0) (AB.nil.mono (by omega)) hx tb12_11 W _ _ _ _ _ (fun b o h => h.2.1) (sf_notin (by simp)) ne_bo12_11_bm12_11 (sf_keepL D_cn12_11 hk (by simp)) (sf_keepL D_ci12_11 hk (by simp)) hP.1 hP.2).mono (fun _ _ ⟨v, h1, h2, h3, h4⟩ => ⟨v, h1, h2, fresh_d hk hg h3, h4⟩)) ?_
     refine .done ⟨by kernel_rfl, fun a14 g W14 y14 zz14 hk hg hV hR hP => ?_⟩
     obtain ⟨e14, -, -⟩ := hV
     replace e2 := (hR 2 rfl).trans e2
     replace e4 := (hR 4 rfl).trans e4
     obtain ⟨v14_14, ev⟩ : ∃ v, sl a14 14 = v := ⟨_, rfl⟩
     rw [ev] at e14
     have D_v14_14 : Rd W14 (SF w [bo12_11, bm12_11, b2_2, b1_2]) (Au.d (partA x 0)) v14_14 := fr_end (M := [bo12_11, bm12_11, b2_2, b1_2]) e14 kw [] in_nil (in_cons own_bo12_11.lt (in_cons own_bm12_11.lt (in_cons own_b2_2.lt (in_cons own_b1_2.lt in_nil))))
     replace e14 := ev; clear ev
     obtain ⟨v14_14_1a, v14_14_1c, ev, D_v14_14_1⟩ := rdAu_out D_v14_14
     subst ev; clear D_v14_14
     replace D_cn12_11 := sf_keepL D_cn12_11 hk (by simp)
     replace D_ci12_11 := sf_keepL D_ci12_11 hk (by simp)
     replace own_b2_2 := own_keepL own_b2_2 hk (by simp [ne_b2_2_bo12_11, ne_b2_2_bm12_11])
     replace own_b1_2 := own_keepL own_b1_2 hk (by simp [ne_b1_2_bo12_11, ne_b1_2_bm12_11])
     obtain ⟨own_bo12_11, own_bm12_11⟩ := hP
     replace own_bo12_11 : Own W14 bo12_11 [(.int .u8 (x.k)), (.int .i64 (x.n)), (.string (x.t)), (.slice cn12_11a (x.ns.length) cn12_11c), (.slice ci12_11a (x.xs.length) ci12_11c), (.map (some bm12_11)), (.int .i64 (partE x 0))] 74 := own_bo12_11
     replace own_bm12_11 : OwnM W14 bm12_11 (partM x ([]) 0) := own_bm12_11
     replace kw := keeps_L kw hk (in_cons (.inl lo_bo12_11) (in_cons (.inl lo_bm12_11) in_nil))
     clear hR hk hg
     refine tail_reg 1 All y14 zz14 st_tr trivial rfl ?_
     refine .alloc z27 ?_
     refine .done ⟨by kernel_rfl, fun a15 g W15 y15 zz15 hk hg hV hR hP => ?_⟩
     refine tail_nil ?_
     show runTail _ _ _ _ _ _
     obtain ⟨⟨b5_15, e5, hb5, own_b5_15⟩, -⟩ := hV
     have lo_b5_15 : w.heap.size ≤ b5_15 := Nat.le_trans kw.size (hg.lo _ _ hb5)
     have ne_b2_2_b5_15 : b2_2 ≠ b5_15 := Nat.ne_of_lt (Nat.lt_of_lt_of_le own_b2_2.lt (hg.lo _ _ hb5))
     have ne_b1_2_b5_15 : b1_2 ≠ b5_15 := Nat.ne_of_lt (Nat.lt_of_lt_of_le own_b1_2.lt (hg.lo _ _ hb5))
     have ne_bo12_11_b5_15 : bo12_11 ≠ b5_15 := Nat.ne_of_lt (Nat.lt_of_lt_of_le own_bo12_11.lt (hg.lo _ _ hb5))
     have ne_bm12_11_b5_15 : bm12_11 ≠ b5_15 := Nat.ne_of_lt (Nat.lt_of_lt_of_le own_bm12_11.lt (hg.lo _ _ hb5))
     have own_b5_15 : Own W15 b5_15 [(.int .i64 (0)), (.slice none 0 0)] 27 := own_b5_15
     replace e2 := (hR 2 rfl).trans e2
     replace e4 := (hR 4 rfl).trans e4
     replace e14 := (hR 14 rfl).trans e14
     replace D_cn12_11 := sf_more D_cn12_11 hk [b5_15] (in_cons (hg.lo _ _ hb5) in_nil)
     replace D_ci12_11 := sf_more D_ci12_11 hk [b5_15] (in_cons (hg.lo _ _ hb5) in_nil)
     replace D_v14_14_1 := sf_more D_v14_14_1 hk [b5_15] (in_cons (hg.lo _ _ hb5) in_nil)
     replace own_b2_2 := own_b2_2.ext hk
     replace own_b1_2 := own_b1_2.ext hk
     replace own_bo12_11 := own_bo12_11.ext hk
     replace own_bm12_11 := own_bm12_11.ext hk
     replace kw := kw.x hk
     clear hR hk hg hP hb5
     refine tail_store (b := b5_15) (o := 0) (v := (.agg #[(.int .i64 ((partA x 0).th)), (.slice v14_14_1a (((partA x 0).ids).length) v14_14_1c)])) e5 e14 sz27 rfl own_b5_15 (lbr rfl) (all_cons rfl (all_cons rfl all_nil)) (fun W16 hs own_b5_15 => ?_)
     have own_b5_15 : Own W16 b5_15 [(.int .i64 ((partA x 0).th)), (.slice v14_14_1a (((partA x 0).ids).length) v14_14_1c)] 27 := own_b5_15
     replace own_b2_2 := own_store own_b2_2 hs ne_b2_2_b5_15
     replace own_b1_2 := own_store own_b1_2 hs ne_b1_2_b5_15
     replace own_bo12_11 := own_store own_bo12_11 hs ne_bo12_11_b5_15
     replace own_bm12_11 := ownM_store own_bm12_11 hs ne_bm12_11_b5_15
     replace D_cn12_11 := sf_store D_cn12_11 hs (by simp)
     replace D_ci12_11 := sf_store D_ci12_11 hs (by simp)
     replace D_v14_14_1 := sf_store D_v14_14_1 hs (by simp)
     replace kw := keeps_store kw hs lo_b5_15
     clear hs
     refine tail_nil (hK13 _ _ ?_)
     refine wp_seq_k fun K17 hK17 => ?_
     refine wp_seq_k fun K18 hK18 => ?_
     refine rg mixed y15 zz15 ?_
     refine .i (sp_move (hbs rfl e4)) ?_
     refine .i (v := (.int .i64 (doneE x (partM x ([]) 0) (partE x 0)))) (sp_call1 (φ1 := Is (.pointer (some ⟨bo12_11, 0, none⟩))) ent32 (hlc rfl) (fun g u1 W hk hgk h1 => by have h1 : u1 = _ := h1; subst u1; exact Done_ok (x) (partM x ([]) 0) (partE x 0) W _ _ _ _ _ (D_cn12_11.ext hk) (own_bo12_11.ext hk) (own_bm12_11.ext hk))) ?_
     refine .i (sp_assign (hlc rfl)) ?_
     refine .done ⟨by kernel_rfl, fun a19 g W19 y19 zz19 hk hg hV hR hP => ?_⟩
     obtain ⟨e6, -, -, -⟩ := hV
     replace e2 := (hR 2 rfl).trans e2
     replace e5 := (hR 5 rfl).trans e5
     replace D_cn12_11 := D_cn12_11.ext hk
     replace D_ci12_11 := D_ci12_11.ext hk
     replace D_v14_14_1 := D_v14_14_1.ext hk
     replace e6 := e6.q
     replace own_b2_2 := own_b2_2.ext hk
     replace own_b1_2 := own_b1_2.ext hk
     replace own_bo12_11 := own_bo12_11.ext hk
     replace own_bm12_11 := own_bm12_11.ext hk
     replace own_b5_15 := own_b5_15.ext hk
     replace kw := kw.x hk
     clear hR hk hg hP
     refine tail_nil (hK18 _ _ ?_)
     refine wp_seq_k fun K20 hK20 => ?_
     refine rg mixed y19 zz19 ?_
     refine .i (sp_move (hbs rfl e6)) ?_
     refine .i (sp_neq (hlc rfl) Has.cst) ?_
     refine .done ⟨by kernel_rfl, fun a21 g W21 y21 zz21 hk hg hV hR hP => ?_⟩
     obtain ⟨e18, -, -⟩ := hV
     replace e2 := (hR 2 rfl).trans e2
     replace e5 := (hR 5 rfl).trans e5
     replace e6 := (hR 6 rfl).trans e6
     replace D_v14_14_1 := D_v14_14_1.ext hk
     replace e18 := e18.q
     replace own_b2_2 := own_b2_2.ext hk
     replace own_b1_2 := own_b1_2.ext hk
     replace own_bo12_11 := own_bo12_11.ext hk
     replace own_bm12_11 := own_bm12_11.ext hk
     replace own_b5_15 := own_b5_15.ext hk
     replace kw := kw.x hk
     clear hR hk hg hP
     refine tail_nil (hK20 _ _ ?_)
     refine wp_cond_split e18 (fun hc => ?_) (fun hc => ?_)
     ·
      have hd := bne_iff_ne.1 hc
      have hoe : ofAE x = doneE x (partM x [] 0) (partE x 0) := by rw [ofAE, if_neg hm, if_neg (by simp [hof])]
      have hov : ofAV x = ⟨0, []⟩ := by rw [ofAV, if_neg (by rw [hoe]; exact hd)]
      refine wp_seq_k fun K22 hK22 => ?_
      refine rg mixed y21 zz21 ?_
      refine .i (v := (.agg #[(.int .i64 (0)), (.slice none 0 0)])) (sp_build (vs := []) Try.underlying27 z27 (pl27 Try.underlying27) trivial rfl) ?_
      refine .i (sp_move (hbs rfl e6)) ?_
      refine .done ⟨by kernel_rfl, fun a23 g W23 y23 zz23 hk hg hV hR hP => ?_⟩
      obtain ⟨e20, e19, -⟩ := hV
      replace e2 := (hR 2 rfl).trans e2
      replace D_v14_14_1 := D_v14_14_1.ext hk
      replace e19 := e19.q
      replace e20 := e20.q
      replace own_b2_2 := own_b2_2.ext hk
      replace own_b1_2 := own_b1_2.ext hk
      replace own_bo12_11 := own_bo12_11.ext hk
      replace own_bm12_11 := own_bm12_11.ext hk
      replace own_b5_15 := own_b5_15.ext hk
      replace kw := kw.x hk
      clear hR hk hg hP
      refine tail_store (b := b2_2) (o := 0) (v := (.agg #[(.int .i64 (0)), (.slice none 0 0)])) e2 e19 sz27 rfl own_b2_2 (lbr rfl) (all_cons rfl (all_cons rfl all_nil)) (fun W24 hs own_b2_2 => ?_)
      have own_b2_2 : Own W24 b2_2 [(.int .i64 (0)), (.slice none 0 0)] 27 := own_b2_2
      replace own_b1_2 := own_store own_b1_2 hs ne_b2_2_b1_2.symm
      replace own_bo12_11 := own_store own_bo12_11 hs ne_b2_2_bo12_11.symm
      replace own_bm12_11 := ownM_store own_bm12_11 hs ne_b2_2_bm12_11.symm
      replace own_b5_15 := own_store own_b5_15 hs ne_b2_2_b5_15.symm
      replace D_v14_14_1 := sf_store D_v14_14_1 hs (by simp)
      replace kw := keeps_store kw hs lo_b2_2
      clear hs
      refine tail_assign (v := (.int .i64 (doneE x (partM x ([]) 0) (partE x 0)))) e20 (by rw [y23]; exact Nat.le_of_ble_eq_true rfl) (fun a25 y25 zz25 e3 hr => ?_)
      replace y25 := y25.trans y23; replace zz25 := zz25.trans zz23
      replace e2 := (hr 2 (by decide)).trans e2
      replace e19 := (hr 19 (by decide)).trans e19
      replace e20 := (hr 20 (by decide)).trans e20
      clear hr
      refine tail_nil (hK22 _ _ ?_)
      refine wp_ret ?_
      refine (show bodyPost Try.prog Try.f16 _ .ret _ _ from retCT (v := (.agg #[(.int .i64 (0)), (.slice none 0 0)])) rfl zz25 e2 own_b2_2 agg27 sz27 rfl (fun h => by cases h) rfl e3 ⟨_, rfl, kw, ?_⟩)
      refine ⟨_, by rw [hoe], ?_⟩
      rw [hov]
      exact sf_fr (rdAu_mk (rd_nil _) : Rd W24 (SF w [b5_15, bo12_11, bm12_11, b2_2, b1_2]) (Au.d (Au.mk (0) ([]))) _)
     ·
      have hd := bne_eq_false_iff_eq.1 hc
      have hoe : ofAE x = 0 := by rw [ofAE, if_neg hm, if_neg (by simp [hof])]; exact hd
      have hov : ofAV x = partA x 0 := by rw [ofAV, if_pos hoe]
      refine wp_skip (hK17 _ _ ?_)
      refine wp_seq_k fun K26 hK26 => ?_
      refine rg mixed y21 zz21 ?_
      refine .i (v := (.agg #[(.int .i64 ((partA x 0).th)), (.slice v14_14_1a (((partA x 0).ids).length) v14_14_1c)])) (loA (hbs rfl e5) own_b5_15 trivial agg27 sz27 rfl rfl) ?_
      refine .done ⟨by kernel_rfl, fun a27 g W27 y27 zz27 hk hg hV hR hP => ?_⟩
      obtain ⟨e21, -⟩ := hV
      replace e2 := (hR 2 rfl).trans e2
      replace D_v14_14_1 := D_v14_14_1.ext hk
      replace e21 := e21.q
      replace own_b2_2 := own_b2_2.ext hk
      replace own_b1_2 := own_b1_2.ext hk
      replace own_bo12_11 := own_bo12_11.ext hk
      replace own_bm12_11 := own_bm12_11.ext hk
      replace own_b5_15 := own_b5_15.ext hk
      replace kw := kw.x hk
      clear hR hk hg hP
      refine tail_store (b := b2_2) (o := 0) (v := (.agg #[(.int .i64 ((partA x 0).th)), (.slice v14_14_1a (((partA x 0).ids).length) v14_14_1c)])) e2 e21 sz27 rfl own_b2_2 (lbr rfl) (all_cons rfl (all_cons rfl all_nil)) (fun W28 hs own_b2_2 => ?_)
      have own_b2_2 : Own W28 b2_2 [(.int .i64 ((partA x 0).th)), (.slice v14_14_1a (((partA x 0).ids).length) v14_14_1c)] 27 := own_b2_2
      replace own_b1_2 := own_store own_b1_2 hs ne_b2_2_b1_2.symm
      replace own_bo12_11 := own_store own_bo12_11 hs ne_b2_2_bo12_11.symm
      replace own_bm12_11 := ownM_store own_bm12_11 hs ne_b2_2_bm12_11.symm
      replace own_b5_15 := own_store own_b5_15 hs ne_b2_2_b5_15.symm
      replace D_v14_14_1 := sf_store D_v14_14_1 hs (by simp)
      replace kw := keeps_store kw hs lo_b2_2
      clear hs
      refine tail_assign (v := (.int .i64 (0))) rfl (by rw [y27]; exact Nat.le_of_ble_eq_true rfl) (fun a29 y29 zz29 e3 hr => ?_)
      replace y29 := y29.trans y27; replace zz29 := zz29.trans zz27
      replace e2 := (hr 2 (by decide)).trans e2
      replace e21 := (hr 21 (by decide)).trans e21
      clear hr
      refine tail_nil (hK26 _ _ ?_)
      refine wp_ret ?_
      refine (show bodyPost Try.prog Try.f16 _ .ret _ _ from retCT (v := (.agg #[(.int .i64 ((partA x 0).th)), (.slice v14_14_1a (((partA x 0).ids).length) v14_14_1c)])) rfl zz29 e2 own_b2_2 agg27 sz27 rfl (fun h => by cases h) rfl e3 ⟨_, rfl, kw, ?_⟩)
      refine ⟨_, by rw [hoe], ?_⟩
      rw [hov]
      exact sf_fr (rdAu_mk D_v14_14_1 : Rd W28 (SF w [b5_15, bo12_11, bm12_11, b2_2, b1_2]) (Au.d ((partA x 0))) _)
  · have hE : errK 0 (ofE x) ≠ 0 := by rw [ofE_dead hof]; exact hof
    obtain ⟨cn0a, cn0c, ci0a, ci0c, ev, ht0, D_cn0, D_ci0⟩ := rdV_out (rd_arg hv)
    subst ev
    refine enter Try.func16 rfl Try.ntmps16 (lbr rfl) fun a0 y0 zz0 harg => ?_
    have e0 : sl a0 0 = (.agg #[(.int .u8 (x.k)), (.int .i64 (x.n)), (.string (x.t)), (.slice cn0a (x.ns.length) cn0c), (.slice ci0a (x.xs.length) ci0c)]) := harg 0 (lbr rfl)
    have kw := Keeps.refl All w
    clear harg
    refine wp_seq_k fun K1 hK1 => ?_
    refine rg mixed y0 zz0 ?_
    refine .boxOp (v := (.agg #[(.int .u8 (x.k)), (.int .i64 (x.n)), (.string (x.t)), (.slice cn0a (x.ns.length) cn0c), (.slice ci0a (x.xs.length) ci0c)])) (hbs rfl e0) ?_
    refine .alloc z27 ?_
    refine .i (sp_assign Has.cst) ?_
    refine .done ⟨by kernel_rfl, fun a2 g W2 y2 zz2 hk hg hV hR hP => ?_⟩
    obtain ⟨-, ⟨b2_2, e2, hb2, own_b2_2⟩, ⟨b1_2, e1, hb1, own_b1_2⟩, -⟩ := hV
    have lo_b2_2 : w.heap.size ≤ b2_2 := Nat.le_trans kw.size (hg.lo _ _ hb2)
    have own_b2_2 : Own W2 b2_2 [(.int .i64 (0)), (.slice none 0 0)] 27 := own_b2_2
    have lo_b1_2 : w.heap.size ≤ b1_2 := Nat.le_trans kw.size (hg.lo _ _ hb1)
    have own_b1_2 : Own W2 b1_2 [(.int .u8 (x.k)), (.int .i64 (x.n)), (.string (x.t)), (.slice cn0a (x.ns.length) cn0c), (.slice ci0a (x.xs.length) ci0c)] 33 := own_b1_2
    have ne_b2_2_b1_2 : b2_2 ≠ b1_2 := fun h => by have := hg.inj _ _ _ hb2 (h ▸ hb1); cases this
    replace D_cn0 := sa_more D_cn0 hk [b2_2, b1_2] (in_cons (hg.lo _ _ hb2) (in_cons (hg.lo _ _ hb1) in_nil))
    replace D_ci0 := sa_more D_ci0 hk [b2_2, b1_2] (in_cons (hg.lo _ _ hb2) (in_cons (hg.lo _ _ hb1) in_nil))
    replace kw := kw.x hk
    clear hR hk hg hP hb2 hb1
    refine tail_nil (hK1 _ _ ?_)
    refine wp_seq_k fun K3 hK3 => ?_
    refine wp_seq_k fun K4 hK4 => ?_
    refine rg mixed y2 zz2 ?_
    refine .i (v := (.agg #[(.int .u8 (x.k)), (.int .i64 (x.n)), (.string (x.t)), (.slice cn0a (x.ns.length) cn0c), (.slice ci0a (x.xs.length) ci0c)])) (loA (hbs rfl e1) own_b1_2 trivial agg33 sz33 rfl rfl) ?_
    refine .i (v := (.bool (mayB (x)))) (sp_call1 (φ1 := IsD (SA w S [b2_2, b1_2]) (V.d (x))) ent76 ((hlc rfl).dat (rdV_in (x := x) ht0 D_cn0 D_ci0 : Rd W2 (SA w S [b2_2, b1_2]) (V.d (x)) _) sub_all) (fun g u1 W hk hgk h1 => May_ok (x) (Nat.le_trans (cnt_wt x) hx) W _ _ h1)) ?_
    refine .i (sp_not (hlc rfl)) ?_
    refine .done ⟨by kernel_rfl, fun a5 g W5 y5 zz5 hk hg hV hR hP => ?_⟩
    obtain ⟨e9, -, -, -⟩ := hV
    replace e2 := (hR 2 rfl).trans e2
    replace e1 := (hR 1 rfl).trans e1
    replace D_cn0 := D_cn0.ext hk
    replace D_ci0 := D_ci0.ext hk
    have e9 : sl a5 9 = (.bool (!(mayB (x)))) := e9
    replace own_b2_2 := own_b2_2.ext hk
    replace own_b1_2 := own_b1_2.ext hk
    replace kw := kw.x hk
    clear hR hk hg hP
    refine tail_nil (hK4 _ _ ?_)
    refine wp_cond_split e9 (fun hc => ?_) (fun hc => ?_)
    ·
     have hm : mayB x = false := by simpa using hc
     have hoe : ofAE x = 3 := by rw [ofAE, if_pos hm]
     have hov : ofAV x = ⟨0, []⟩ := by rw [ofAV, hoe]; rfl
     refine wp_seq_k fun K6 hK6 => ?_
     refine rg mixed y5 zz5 ?_
     refine .i (v := (.agg #[(.int .i64 (0)), (.slice none 0 0)])) (sp_build (vs := []) Try.underlying27 z27 (pl27 Try.underlying27) trivial rfl) ?_
     refine .done ⟨by kernel_rfl, fun a7 g W7 y7 zz7 hk hg hV hR hP => ?_⟩
     obtain ⟨e10, -⟩ := hV
     replace e2 := (hR 2 rfl).trans e2
     replace D_cn0 := D_cn0.ext hk
     replace D_ci0 := D_ci0.ext hk
     replace e10 := e10.q
     replace own_b2_2 := own_b2_2.ext hk
     replace own_b1_2 := own_b1_2.ext hk
     replace kw := kw.x hk
     clear hR hk hg hP
     refine tail_store (b := b2_2) (o := 0) (v := (.agg #[(.int .i64 (0)), (.slice none 0 0)])) e2 e10 sz27 rfl own_b2_2 (lbr rfl) (all_cons rfl (all_cons rfl all_nil)) (fun W8 hs own_b2_2 => ?_)
     have own_b2_2 : Own W8 b2_2 [(.int .i64 (0)), (.slice none 0 0)] 27 := own_b2_2
     replace own_b1_2 := own_store own_b1_2 hs ne_b2_2_b1_2.symm
     replace D_cn0 := sa_store D_cn0 hs (by simp)
     replace D_ci0 := sa_store D_ci0 hs (by simp)
     replace kw := keeps_store kw hs lo_b2_2
     clear hs
     refine tail_assign (v := (.int .i64 (3))) rfl (by rw [y7]; exact Nat.le_of_ble_eq_true rfl) (fun a9 y9 zz9 e3 hr => ?_)
     replace y9 := y9.trans y7; replace zz9 := zz9.trans zz7
     replace e2 := (hr 2 (by decide)).trans e2
     replace e10 := (hr 10 (by decide)).trans e10
     clear hr
     refine tail_nil (hK6 _ _ ?_)
     refine wp_ret ?_
     refine (show bodyPost Try.prog Try.f16 _ .ret _ _ from retCT (v := (.agg #[(.int .i64 (0)), (.slice none 0 0)])) rfl zz9 e2 own_b2_2 agg27 sz27 rfl (fun h => by cases h) rfl e3 ⟨_, rfl, kw, ?_⟩)
     refine ⟨_, by rw [hoe], ?_⟩
     rw [hov]
     exact sf_fr (rdAu_mk (rd_nil _) : Rd W8 (SF w [b2_2, b1_2]) (Au.d (Au.mk (0) ([]))) _)
    ·
     have hm : ¬ mayB x = false := by simpa using hc
     refine wp_skip (hK3 _ _ ?_)
     refine wp_seq_k fun K10 hK10 => ?_
     refine rg mixed y5 zz5 ?_
     refine .i (v := (.agg #[(.int .u8 (x.k)), (.int .i64 (x.n)), (.string (x.t)), (.slice cn0a (x.ns.length) cn0c), (.slice ci0a (x.xs.length) ci0c)])) (loA (hbs rfl e1) own_b1_2 trivial agg33 sz33 rfl rfl) ?_
     refine .op (φ := IsPkD W5 74 (ofE x)) st_pkd (sp_call1 (φ1 := IsD (SA w S [b2_2, b1_2]) (V.d (x))) ent21 ((hlc rfl).dat (rdV_in (x := x) ht0 D_cn0 D_ci0 : Rd W5 (SA w S [b2_2, b1_2]) (V.d (x)) _) sub_all) (fun g u1 W hk hgk h1 => (OfD_ok (x) hof W _ _ h1).mono (fun _ _ ⟨v, h1, h2, h3⟩ => ⟨v, h1, h2, pkd_up hk h3⟩))) ?_
     refine .done ⟨by kernel_rfl, fun a11 g W11 y11 zz11 hk hg hV hR hP => ?_⟩
     obtain ⟨e12, -, -⟩ := hV
     replace e2 := (hR 2 rfl).trans e2
     obtain ⟨bo12_11, e12, lr_bo12_11, own_bo12_11⟩ := e12
     have e12 : sl a11 12 = (.pointer (some ⟨bo12_11, 0, none⟩)) := e12
     have lo_bo12_11 : w.heap.size ≤ bo12_11 := Nat.le_trans kw.size lr_bo12_11
     have ne_b2_2_bo12_11 : b2_2 ≠ bo12_11 := Nat.ne_of_lt (Nat.lt_of_lt_of_le own_b2_2.lt lr_bo12_11)
     have ne_b1_2_bo12_11 : b1_2 ≠ bo12_11 := Nat.ne_of_lt (Nat.lt_of_lt_of_le own_b1_2.lt lr_bo12_11)
     replace D_cn0 : Rd W11 (SA w S [bo12_11, b2_2, b1_2]) (strsD (x.ns)) (.slice cn0a (x.ns.length) cn0c) := sa_more D_cn0 hk [bo12_11] (in_cons lr_bo12_11 in_nil)
     replace D_ci0 : Rd W11 (SA w S [bo12_11, b2_2, b1_2]) (valsD (x.xs)) (.slice ci0a (x.xs.length) ci0c) := sa_more D_ci0 hk [bo12_11] (in_cons lr_bo12_11 in_nil)
     have own_bo12_11 : Own W11 bo12_11 [(.int .u8 (0)), (.int .i64 (0)), (.string (⟨#[]⟩)), (.slice none 0 0), (.slice none 0 0), (.map none), (.int .i64 (ofE x))] 74 := own_bo12_11
     replace own_b2_2 := own_b2_2.ext hk
     replace own_b1_2 := own_b1_2.ext hk
     replace kw := kw.x hk
     clear hR hk hg hP lr_bo12_11
     refine tail_assign (v := (.pointer (some ⟨bo12_11, 0, none⟩))) e12 (by rw [y11]; exact Nat.le_of_ble_eq_true rfl) (fun a12 y12 zz12 e4 hr => ?_)
     replace y12 := y12.trans y11; replace zz12 := zz12.trans zz11
     replace e2 := (hr 2 (by decide)).trans e2
     replace e12 := (hr 12 (by decide)).trans e12
     clear hr
     refine tail_nil (hK10 _ _ ?_)
     refine wp_seq_k fun K13 hK13 => ?_
     refine wp_reg (fun k => k ∉ [bo12_11]) (Ψ := fun W => Own W bo12_11 [(.int .u8 (0)), (.int .i64 (0)), (.string (⟨#[]⟩)), (.slice none 0 0), (.slice none 0 0), (.map none), (.int .i64 (ofE x))] 74) mixed y12 zz12 stE_own own_bo12_11 ?_
     refine .i (sp_move (hbs rfl e4)) ?_
     refine .callL1 (φ1 := Is (.pointer (some ⟨bo12_11, 0, none⟩))) (φ := Is (.agg #[(.int .i64 (0)), (.slice none 0 0)])) (Ψ' := fun W => Own W bo12_11 [(.int .u8 (0)), (.int .i64 (0)), (.string (⟨#[]⟩)), (.slice none 0 0), (.slice none 0 0), (.map none), (.int .i64 (ofE x))] 74) ent23 (hlc rfl) (st_is _) stE_own (fun g u1 W hk hg h1 hP => by have h1 : u1 = _ := h1; subst u1; exact (PartD_ok 0 _ _ _ _ _ (ofE x) hE W _ hP)) ?_
     refine .done ⟨by kernel_rfl, fun a14 g W14 y14 zz14 hk hg hV hR hP => ?_⟩
     obtain ⟨e14, -, -⟩ := hV
     replace e2 := (hR 2 rfl).trans e2
     replace e4 := (hR 4 rfl).trans e4
     replace e14 := e14.q
     replace own_b2_2 := own_keepL own_b2_2 hk (by simp [ne_b2_2_bo12_11])
     replace own_b1_2 := own_keepL own_b1_2 hk (by simp [ne_b1_2_bo12_11])
     have own_bo12_11 := hP
     replace own_bo12_11 : Own W14 bo12_11 [(.int .u8 (0)), (.int .i64 (0)), (.string (⟨#[]⟩)), (.slice none 0 0), (.slice none 0 0), (.map none), (.int .i64 (ofE x))] 74 := own_bo12_11
     replace kw := keeps_L kw hk (in_cons (.inl lo_bo12_11) in_nil)
     clear hR hk hg hP
     refine tail_reg 1 All y14 zz14 st_tr trivial rfl ?_
     refine .alloc z27 ?_
     refine .done ⟨by kernel_rfl, fun a15 g W15 y15 zz15 hk hg hV hR hP => ?_⟩
     refine tail_nil ?_
     show runTail _ _ _ _ _ _
     obtain ⟨⟨b5_15, e5, hb5, own_b5_15⟩, -⟩ := hV
     have lo_b5_15 : w.heap.size ≤ b5_15 := Nat.le_trans kw.size (hg.lo _ _ hb5)
     have ne_b2_2_b5_15 : b2_2 ≠ b5_15 := Nat.ne_of_lt (Nat.lt_of_lt_of_le own_b2_2.lt (hg.lo _ _ hb5))
     have ne_b1_2_b5_15 : b1_2 ≠ b5_15 := Nat.ne_of_lt (Nat.lt_of_lt_of_le own_b1_2.lt (hg.lo _ _ hb5))
     have ne_bo12_11_b5_15 : bo12_11 ≠ b5_15 := Nat.ne_of_lt (Nat.lt_of_lt_of_le own_bo12_11.lt (hg.lo _ _ hb5))
     have own_b5_15 : Own W15 b5_15 [(.int .i64 (0)), (.slice none 0 0)] 27 := own_b5_15
     replace e2 := (hR 2 rfl).trans e2
     replace e4 := (hR 4 rfl).trans e4
     replace e14 := (hR 14 rfl).trans e14
     replace own_b2_2 := own_b2_2.ext hk
     replace own_b1_2 := own_b1_2.ext hk
     replace own_bo12_11 := own_bo12_11.ext hk
     replace kw := kw.x hk
     clear hR hk hg hP hb5
     refine tail_store (b := b5_15) (o := 0) (v := (.agg #[(.int .i64 (0)), (.slice none 0 0)])) e5 e14 sz27 rfl own_b5_15 (lbr rfl) (all_cons rfl (all_cons rfl all_nil)) (fun W16 hs own_b5_15 => ?_)
     have own_b5_15 : Own W16 b5_15 [(.int .i64 (0)), (.slice none 0 0)] 27 := own_b5_15
     replace own_b2_2 := own_store own_b2_2 hs ne_b2_2_b5_15
     replace own_b1_2 := own_store own_b1_2 hs ne_b1_2_b5_15
     replace own_bo12_11 := own_store own_bo12_11 hs ne_bo12_11_b5_15
     replace kw := keeps_store kw hs lo_b5_15
     clear hs
     refine tail_nil (hK13 _ _ ?_)
     refine wp_seq_k fun K17 hK17 => ?_
     refine wp_seq_k fun K18 hK18 => ?_
     refine rg mixed y15 zz15 ?_
     refine .i (sp_move (hbs rfl e4)) ?_
     refine .i (v := (.int .i64 (errK 0 (ofE x)))) (sp_call1 (φ1 := Is (.pointer (some ⟨bo12_11, 0, none⟩))) ent32 (hlc rfl) (fun g u1 W hk hgk h1 => by have h1 : u1 = _ := h1; subst u1; exact DoneD_ok _ _ _ _ _ _ _ hE W _ (own_bo12_11.ext hk))) ?_
     refine .i (sp_assign (hlc rfl)) ?_
     refine .done ⟨by kernel_rfl, fun a19 g W19 y19 zz19 hk hg hV hR hP => ?_⟩
     obtain ⟨e6, -, -, -⟩ := hV
     replace e2 := (hR 2 rfl).trans e2
     replace e5 := (hR 5 rfl).trans e5
     have e6 : sl a19 6 = (.int .i64 (errK 0 (ofE x))) := e6
     replace own_b2_2 := own_b2_2.ext hk
     replace own_b1_2 := own_b1_2.ext hk
     replace own_bo12_11 := own_bo12_11.ext hk
     replace own_b5_15 := own_b5_15.ext hk
     replace kw := kw.x hk
     clear hR hk hg hP
     refine tail_nil (hK18 _ _ ?_)
     refine wp_seq_k fun K20 hK20 => ?_
     refine rg mixed y19 zz19 ?_
     refine .i (sp_move (hbs rfl e6)) ?_
     refine .i (sp_neq (hlc rfl) Has.cst) ?_
     refine .done ⟨by kernel_rfl, fun a21 g W21 y21 zz21 hk hg hV hR hP => ?_⟩
     obtain ⟨e18, -, -⟩ := hV
     replace e2 := (hR 2 rfl).trans e2
     replace e5 := (hR 5 rfl).trans e5
     replace e6 := (hR 6 rfl).trans e6
     replace e18 := e18.q
     replace own_b2_2 := own_b2_2.ext hk
     replace own_b1_2 := own_b1_2.ext hk
     replace own_bo12_11 := own_bo12_11.ext hk
     replace own_b5_15 := own_b5_15.ext hk
     replace kw := kw.x hk
     clear hR hk hg hP
     refine tail_nil (hK20 _ _ ?_)
     refine wp_cond_split e18 (fun hc => ?_) (fun hc => ?_)
     ·
      have hoe : ofAE x = errK 0 (ofE x) := by rw [ofAE, if_neg hm, if_pos hof, ofE_dead hof]
      have hov : ofAV x = ⟨0, []⟩ := by rw [ofAV, if_neg (by rw [hoe]; exact hE)]
      refine wp_seq_k fun K22 hK22 => ?_
      refine rg mixed y21 zz21 ?_
      refine .i (v := (.agg #[(.int .i64 (0)), (.slice none 0 0)])) (sp_build (vs := []) Try.underlying27 z27 (pl27 Try.underlying27) trivial rfl) ?_
      refine .i (sp_move (hbs rfl e6)) ?_
      refine .done ⟨by kernel_rfl, fun a23 g W23 y23 zz23 hk hg hV hR hP => ?_⟩
      obtain ⟨e20, e19, -⟩ := hV
      replace e2 := (hR 2 rfl).trans e2
      replace e19 := e19.q
      have e20 : sl a23 20 = (.int .i64 (errK 0 (ofE x))) := e20
      replace own_b2_2 := own_b2_2.ext hk
      replace own_b1_2 := own_b1_2.ext hk
      replace own_bo12_11 := own_bo12_11.ext hk
      replace own_b5_15 := own_b5_15.ext hk
      replace kw := kw.x hk
      clear hR hk hg hP
      refine tail_store (b := b2_2) (o := 0) (v := (.agg #[(.int .i64 (0)), (.slice none 0 0)])) e2 e19 sz27 rfl own_b2_2 (lbr rfl) (all_cons rfl (all_cons rfl all_nil)) (fun W24 hs own_b2_2 => ?_)
      have own_b2_2 : Own W24 b2_2 [(.int .i64 (0)), (.slice none 0 0)] 27 := own_b2_2
      replace own_b1_2 := own_store own_b1_2 hs ne_b2_2_b1_2.symm
      replace own_bo12_11 := own_store own_bo12_11 hs ne_b2_2_bo12_11.symm
      replace own_b5_15 := own_store own_b5_15 hs ne_b2_2_b5_15.symm
      replace kw := keeps_store kw hs lo_b2_2
      clear hs
      refine tail_assign (v := (.int .i64 (errK 0 (ofE x)))) e20 (by rw [y23]; exact Nat.le_of_ble_eq_true rfl) (fun a25 y25 zz25 e3 hr => ?_)
      replace y25 := y25.trans y23; replace zz25 := zz25.trans zz23
      replace e2 := (hr 2 (by decide)).trans e2
      replace e19 := (hr 19 (by decide)).trans e19
      replace e20 := (hr 20 (by decide)).trans e20
      clear hr
      refine tail_nil (hK22 _ _ ?_)
      refine wp_ret ?_
      refine (show bodyPost Try.prog Try.f16 _ .ret _ _ from retCT (v := (.agg #[(.int .i64 (0)), (.slice none 0 0)])) rfl zz25 e2 own_b2_2 agg27 sz27 rfl (fun h => by cases h) rfl e3 ⟨_, rfl, kw, ?_⟩)
      refine ⟨_, by rw [hoe], ?_⟩
      rw [hov]
      exact sf_fr (rdAu_mk (rd_nil _) : Rd W24 (SF w [b5_15, bo12_11, b2_2, b1_2]) (Au.d (Au.mk (0) ([]))) _)
     ·
      exact absurd (bne_eq_false_iff_eq.1 hc) hE

end Go.Proofs.Ytnobijngkpflcaa
