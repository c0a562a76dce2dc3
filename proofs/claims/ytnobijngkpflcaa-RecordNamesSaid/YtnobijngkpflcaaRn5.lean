/-
  The law RecordNames of package legatelaw21 (a closed statement) returns true. No condition beyond the row's own.
-/
import Derived.Test.YtnobijngkpflcaaRn4
namespace Go.Proofs.Ytnobijngkpflcaa
open Go.Eng
set_option maxRecDepth 100000 in
set_option maxHeartbeats 1000000 in
theorem recordOf_ok (x : V) (hx : x.wt ≤ 1073741824) (w : World) (S : BSet) (v : Value) (hS : ∀ b o, S b o → Cln o) (hv : Rd w S x.d v) : Calls Try.prog 72 #[v] w (Ret w fun r W => ∃ r1, r = .tuple #[r1, .int .i64 (ofRE x)] ∧ Rd W (Fr w) (Rc.d (ofRV x)) r1) := by
  by_cases hof : ofE x = 0
  · skip
    obtain ⟨cn0a, cn0c, ci0a, ci0c, ev, ht0, D_cn0, D_ci0⟩ := rdV_out (rd_arg hv)
    subst ev
    refine enter Try.func72 rfl Try.ntmps72 (lbr rfl) fun a0 y0 zz0 harg => ?_
    have e0 : sl a0 0 = (.agg #[(.int .u8 (x.k)), (.int .i64 (x.n)), (.string (x.t)), (.slice cn0a (x.ns.length) cn0c), (.slice ci0a (x.xs.length) ci0c)]) := harg 0 (lbr rfl)
    have kw := Keeps.refl All w
    clear harg
    refine wp_seq_k fun K1 hK1 => ?_
    refine rg mixed y0 zz0 ?_
    refine .boxOp (v := (.agg #[(.int .u8 (x.k)), (.int .i64 (x.n)), (.string (x.t)), (.slice cn0a (x.ns.length) cn0c), (.slice ci0a (x.xs.length) ci0c)])) (hbs rfl e0) ?_
    refine .alloc z87 ?_
    refine .i (sp_assign Has.cst) ?_
    refine .done ⟨by kernel_rfl, fun a2 g W2 y2 zz2 hk hg hV hR hP => ?_⟩
    obtain ⟨-, ⟨b2_2, e2, hb2, own_b2_2⟩, ⟨b1_2, e1, hb1, own_b1_2⟩, -⟩ := hV
    have lo_b2_2 : w.heap.size ≤ b2_2 := Nat.le_trans kw.size (hg.lo _ _ hb2)
    have own_b2_2 : Own W2 b2_2 [(.int .i64 (0)), (.slice none 0 0), (.int .u8 (0)), (.int .i64 (0)), (.string (⟨#[]⟩)), (.slice none 0 0), (.slice none 0 0)] 87 := own_b2_2
    have lo_b1_2 : w.heap.size ≤ b1_2 := Nat.le_trans kw.size (hg.lo _ _ hb1)
    have own_b1_2 : Own W2 b1_2 [(.int .u8 (x.k)), (.int .i64 (x.n)), (.string (x.t)), (.slice cn0a (x.ns.length) cn0c), (.slice ci0a (x.xs.length) ci0c)] 33 := own_b1_2
    have ne_b2_2_b1_2 : b2_2 ≠ b1_2 := fun h => by have := hg.inj _ _ _ hb2 (h ▸ hb1); cases this
    replace D_cn0 := sa_more D_cn0 hk [b2_2, b1_2] (in_cons (hg.lo _ _ hb2) (in_cons (hg.lo _ _ hb1) in_nil))
    replace D_ci0 := sa_more D_ci0 hk [b2_2, b1_2] (in_cons (hg.lo _ _ hb2) (in_cons (hg.lo _ _ hb1) in_nil))
    replace kw := kw.x hk
    clear hR hk hg hP hb2 hb1
    refine tail_nil (hK1 _ _ ?_)
    refine wp_seq_k fun K3 hK3 => ?_
    refine wp_seq_k fun K4 hK4 => ?_
    refine rg mixed y2 zz2 ?_
    refine .i (v := (.agg #[(.int .u8 (x.k)), (.int .i64 (x.n)), (.string (x.t)), (.slice cn0a (x.ns.length) cn0c), (.slice ci0a (x.xs.length) ci0c)])) (loA (hbs rfl e1) own_b1_2 trivial agg33 sz33 rfl rfl) ?_
    refine .i (v := (.bool (mayB (x)))) (sp_call1 (φ1 := IsD (SA w S [b2_2, b1_2]) (V.d (x))) ent76 ((hlc rfl).dat (rdV_in (x := x) ht0 D_cn0 D_ci0 : Rd W2 (SA w S [b2_2, b1_2]) (V.d (x)) _) sub_all) (fun g u1 W hk hgk h1 => May_ok (x) (Nat.le_trans (cnt_wt x) hx) W _ _ h1)) ?_
    refine .i (sp_not (hlc rfl)) ?_
    refine .done ⟨by kernel_rfl, fun a5 g W5 y5 zz5 hk hg hV hR hP => ?_⟩
    obtain ⟨e10, -, -, -⟩ := hV
    replace e2 := (hR 2 rfl).trans e2
    replace e1 := (hR 1 rfl).trans e1
    replace D_cn0 := D_cn0.ext hk
    replace D_ci0 := D_ci0.ext hk
    have e10 : sl a5 10 = (.bool (!(mayB (x)))) := e10
    replace own_b2_2 := own_b2_2.ext hk
    replace own_b1_2 := own_b1_2.ext hk
    replace kw := kw.x hk
    clear hR hk hg hP
    refine tail_nil (hK4 _ _ ?_)
    refine wp_cond_split e10 (fun hc => ?_) (fun hc => ?_)
    ·
     have hm : mayB x = false := by simpa using hc
     have hoe : ofRE x = 3 := by rw [ofRE, if_pos hm]
     have hov : ofRV x = ⟨0, [], ⟨0, 0, ⟨#[]⟩, [], []⟩⟩ := by rw [ofRV, hoe]; rfl
     refine wp_seq_k fun K6 hK6 => ?_
     refine rg mixed y5 zz5 ?_
     refine .i (v := (.agg #[(.int .i64 (0)), (.slice none 0 0), (.int .u8 (0)), (.int .i64 (0)), (.string (⟨#[]⟩)), (.slice none 0 0), (.slice none 0 0)])) (sp_build (vs := []) Try.underlying87 z87 (pl87 Try.underlying87) trivial rfl) ?_
     refine .done ⟨by kernel_rfl, fun a7 g W7 y7 zz7 hk hg hV hR hP => ?_⟩
     obtain ⟨e11, -⟩ := hV
     replace e2 := (hR 2 rfl).trans e2
     replace D_cn0 := D_cn0.ext hk
     replace D_ci0 := D_ci0.ext hk
     replace e11 := e11.q
     replace own_b2_2 := own_b2_2.ext hk
     replace own_b1_2 := own_b1_2.ext hk
     replace kw := kw.x hk
     clear hR hk hg hP
     refine tail_store (b := b2_2) (o := 0) (v := (.agg #[(.int .i64 (0)), (.slice none 0 0), (.int .u8 (0)), (.int .i64 (0)), (.string (⟨#[]⟩)), (.slice none 0 0), (.slice none 0 0)])) e2 e11 sz87 rfl own_b2_2 (lbr rfl) (all_cons rfl (all_cons rfl (all_cons rfl (all_cons rfl (all_cons rfl (all_cons rfl (all_cons rfl all_nil))))))) (fun W8 hs own_b2_2 => ?_)
     have own_b2_2 : Own W8 b2_2 [(.int .i64 (0)), (.slice none 0 0), (.int .u8 (0)), (.int .i64 (0)), (.string (⟨#[]⟩)), (.slice none 0 0), (.slice none 0 0)] 87 := own_b2_2
     replace own_b1_2 := own_store own_b1_2 hs ne_b2_2_b1_2.symm
     replace D_cn0 := sa_store D_cn0 hs (by simp)
     replace D_ci0 := sa_store D_ci0 hs (by simp)
     replace kw := keeps_store kw hs lo_b2_2
     clear hs
     refine tail_assign (v := (.int .i64 (3))) rfl (by rw [y7]; exact Nat.le_of_ble_eq_true rfl) (fun a9 y9 zz9 e3 hr => ?_)
     replace y9 := y9.trans y7; replace zz9 := zz9.trans zz7
     replace e2 := (hr 2 (by decide)).trans e2
     replace e11 := (hr 11 (by decide)).trans e11
     clear hr
     refine tail_nil (hK6 _ _ ?_)
     refine wp_ret ?_
     refine (show bodyPost Try.prog Try.f72 _ .ret _ _ from retCT (v := (.agg #[(.int .i64 (0)), (.slice none 0 0), (.int .u8 (0)), (.int .i64 (0)), (.string (⟨#[]⟩)), (.slice none 0 0), (.slice none 0 0)])) rfl zz9 e2 own_b2_2 agg87 sz87 rfl (fun h => by cases h) rfl e3 ⟨_, rfl, kw, ?_⟩)
     refine ⟨_, congrArg (fun q => Value.tuple #[_, Value.int .i64 q]) hoe.symm, ?_⟩
     rw [hov]
     exact sf_fr (rdRc_mk (rd_nil _) (rdV_mk (lbr rfl) (rd_nil _) (rd_nil _) : Rd W8 (SF w [b2_2, b1_2]) (V.d (V.mk (0) (0) (⟨#[]⟩) ([]) ([]))) _) : Rd W8 (SF w [b2_2, b1_2]) (Rc.d (Rc.mk (0) ([]) (V.mk (0) (0) (⟨#[]⟩) ([]) ([])))) _)
    ·
     have hm : ¬ mayB x = false := by simpa using hc
     refine wp_skip (hK3 _ _ ?_)
     refine wp_seq_k fun K10 hK10 => ?_
     refine rg mixed y5 zz5 ?_
     refine .i (v := (.agg #[(.int .u8 (x.k)), (.int .i64 (x.n)), (.string (x.t)), (.slice cn0a (x.ns.length) cn0c), (.slice ci0a (x.xs.length) ci0c)])) (loA (hbs rfl e1) own_b1_2 trivial agg33 sz33 rfl rfl) ?_
     refine .op (φ := IsPk W5 74 (x) ([]) (0)) st_pk (sp_call1 (φ1 := IsD (SA w S [b2_2, b1_2]) (V.d (x))) ent21 ((hlc rfl).dat (rdV_in (x := x) ht0 D_cn0 D_ci0 : Rd W5 (SA w S [b2_2, b1_2]) (V.d (x)) _) sub_all) (fun g u1 W hk hgk h1 => (Of_ok (x) hx hof W _ _ (fun b o h => sa_cln hS b o h.1) h1).mono (fun _ _ ⟨v, h1, h2, h3⟩ => ⟨v, h1, h2, pk_up hk h3⟩))) ?_
     refine .done ⟨by kernel_rfl, fun a11 g W11 y11 zz11 hk hg hV hR hP => ?_⟩
     obtain ⟨e13, -, -⟩ := hV
     replace e2 := (hR 2 rfl).trans e2
     obtain ⟨bo13_11, bm13_11, cn13_11v, ci13_11v, e13, lr_bo13_11, lr_bm13_11, ne_bo13_11_bm13_11, own_bo13_11, own_bm13_11, D_cn13_11, D_ci13_11, tb13_11⟩ := e13
     obtain ⟨cn13_11a, cn13_11c, ev, D2⟩ := rdS_out D_cn13_11; subst ev; replace D_cn13_11 := D2; clear D2
     obtain ⟨ci13_11a, ci13_11c, ev, D2⟩ := rdVs_out D_ci13_11; subst ev; replace D_ci13_11 := D2; clear D2
     have e13 : sl a11 13 = (.pointer (some ⟨bo13_11, 0, none⟩)) := e13
     have lo_bo13_11 : w.heap.size ≤ bo13_11 := Nat.le_trans kw.size lr_bo13_11
     have ne_b2_2_bo13_11 : b2_2 ≠ bo13_11 := Nat.ne_of_lt (Nat.lt_of_lt_of_le own_b2_2.lt lr_bo13_11)
     have ne_b1_2_bo13_11 : b1_2 ≠ bo13_11 := Nat.ne_of_lt (Nat.lt_of_lt_of_le own_b1_2.lt lr_bo13_11)
     have lo_bm13_11 : w.heap.size ≤ bm13_11 := Nat.le_trans kw.size lr_bm13_11
     have ne_b2_2_bm13_11 : b2_2 ≠ bm13_11 := Nat.ne_of_lt (Nat.lt_of_lt_of_le own_b2_2.lt lr_bm13_11)
     have ne_b1_2_bm13_11 : b1_2 ≠ bm13_11 := Nat.ne_of_lt (Nat.lt_of_lt_of_le own_b1_2.lt lr_bm13_11)
     replace D_cn0 : Rd W11 (SA w S [bo13_11, bm13_11, b2_2, b1_2]) (strsD (x.ns)) (.slice cn0a (x.ns.length) cn0c) := sa_more D_cn0 hk [bo13_11, bm13_11] (in_cons lr_bo13_11 (in_cons lr_bm13_11 in_nil))
     replace D_ci0 : Rd W11 (SA w S [bo13_11, bm13_11, b2_2, b1_2]) (valsD (x.xs)) (.slice ci0a (x.xs.length) ci0c) := sa_more D_ci0 hk [bo13_11, bm13_11] (in_cons lr_bo13_11 (in_cons lr_bm13_11 in_nil))
     replace D_cn13_11 : Rd W11 (SF w [bo13_11, bm13_11, b2_2, b1_2]) (strsD (x.ns)) (.slice cn13_11a (x.ns.length) cn13_11c) := pk_data kw (in_cons own_b2_2.lt (in_cons own_b1_2.lt in_nil)) D_cn13_11
     replace D_ci13_11 : Rd W11 (SF w [bo13_11, bm13_11, b2_2, b1_2]) (valsD (x.xs)) (.slice ci13_11a (x.xs.length) ci13_11c) := pk_data kw (in_cons own_b2_2.lt (in_cons own_b1_2.lt in_nil)) D_ci13_11
     have own_bo13_11 : Own W11 bo13_11 [(.int .u8 (x.k)), (.int .i64 (x.n)), (.string (x.t)), (.slice cn13_11a (x.ns.length) cn13_11c), (.slice ci13_11a (x.xs.length) ci13_11c), (.map (some bm13_11)), (.int .i64 (0))] 74 := own_bo13_11
     have own_bm13_11 : OwnM W11 bm13_11 ([]) := own_bm13_11
     replace own_b2_2 := own_b2_2.ext hk
     replace own_b1_2 := own_b1_2.ext hk
     replace kw := kw.x hk
     clear hR hk hg hP lr_bo13_11 lr_bm13_11
     refine tail_assign (v := (.pointer (some ⟨bo13_11, 0, none⟩))) e13 (by rw [y11]; exact Nat.le_of_ble_eq_true rfl) (fun a12 y12 zz12 e4 hr => ?_)
     replace y12 := y12.trans y11; replace zz12 := zz12.trans zz11
     replace e2 := (hr 2 (by decide)).trans e2
     replace e13 := (hr 13 (by decide)).trans e13
     clear hr
     refine tail_nil (hK10 _ _ ?_)
     refine wp_seq_k fun K13 hK13 => ?_
     refine rg mixed y12 zz12 ?_
     refine .alloc z87 ?_
     refine .done ⟨by kernel_rfl, fun a14 g W14 y14 zz14 hk hg hV hR hP => ?_⟩
     obtain ⟨⟨b5_14, e5, hb5, own_b5_14⟩, -⟩ := hV
     have lo_b5_14 : w.heap.size ≤ b5_14 := Nat.le_trans kw.size (hg.lo _ _ hb5)
     have ne_b2_2_b5_14 : b2_2 ≠ b5_14 := Nat.ne_of_lt (Nat.lt_of_lt_of_le own_b2_2.lt (hg.lo _ _ hb5))
     have ne_b1_2_b5_14 : b1_2 ≠ b5_14 := Nat.ne_of_lt (Nat.lt_of_lt_of_le own_b1_2.lt (hg.lo _ _ hb5))
     have ne_bo13_11_b5_14 : bo13_11 ≠ b5_14 := Nat.ne_of_lt (Nat.lt_of_lt_of_le own_bo13_11.lt (hg.lo _ _ hb5))
     have ne_bm13_11_b5_14 : bm13_11 ≠ b5_14 := Nat.ne_of_lt (Nat.lt_of_lt_of_le own_bm13_11.lt (hg.lo _ _ hb5))
     have own_b5_14 : Own W14 b5_14 [(.int .i64 (0)), (.slice none 0 0), (.int .u8 (0)), (.int .i64 (0)), (.string (⟨#[]⟩)), (.slice none 0 0), (.slice none 0 0)] 87 := own_b5_14
     replace e2 := (hR 2 rfl).trans e2
     replace e4 := (hR 4 rfl).trans e4
     replace D_cn13_11 := sf_more D_cn13_11 hk [b5_14] (in_cons (hg.lo _ _ hb5) in_nil)
     replace D_ci13_11 := sf_more D_ci13_11 hk [b5_14] (in_cons (hg.lo _ _ hb5) in_nil)
     replace own_b2_2 := own_b2_2.ext hk
     replace own_b1_2 := own_b1_2.ext hk
     replace own_bo13_11 := own_bo13_11.ext hk
     replace own_bm13_11 := own_bm13_11.ext hk
     replace kw := kw.x hk
     clear hR hk hg hP hb5
     refine tail_nil (hK13 _ _ ?_)
     refine wp_seq_k fun K15 hK15 => ?_
     refine rg mixed y14 zz14 ?_
     refine .i (sp_assign Has.cst) ?_
     refine .done ⟨by kernel_rfl, fun a16 g W16 y16 zz16 hk hg hV hR hP => ?_⟩
     obtain ⟨-, -⟩ := hV
     replace e2 := (hR 2 rfl).trans e2
     replace e4 := (hR 4 rfl).trans e4
     replace e5 := (hR 5 rfl).trans e5
     replace D_cn13_11 := D_cn13_11.ext hk
     replace D_ci13_11 := D_ci13_11.ext hk
     replace own_b2_2 := own_b2_2.ext hk
     replace own_b1_2 := own_b1_2.ext hk
     replace own_bo13_11 := own_bo13_11.ext hk
     replace own_bm13_11 := own_bm13_11.ext hk
     replace own_b5_14 := own_b5_14.ext hk
     replace kw := kw.x hk
     clear hR hk hg hP
     refine tail_nil (hK15 _ _ ?_)
     refine wp_seq_k fun K17 hK17 => ?_
     refine wp_reg (fun k => k ∉ [bo13_11, bm13_11]) (Ψ := fun W => Own W bo13_11 [(.int .u8 (x.k)), (.int .i64 (x.n)), (.string (x.t)), (.slice cn13_11a (x.ns.length) cn13_11c), (.slice ci13_11a (x.xs.length) ci13_11c), (.map (some bm13_11)), (.int .i64 (0))] 74 ∧ OwnM W bm13_11 ([])) mixed y16 zz16 (stE_and stE_own stE_ownM) ⟨own_bo13_11, own_bm13_11⟩ ?_
     refine .i (sp_move (hbs rfl e4)) ?_
     refine .callL4 (φ1 := Is (.pointer (some ⟨bo13_11, 0, none⟩))) (φ2 := Is (.string (⟨#[108, 101, 110, 103, 116, 104]⟩))) (φ3 := Is (.int .i64 (0))) (φ4 := Is (.int .i64 (1099511627776))) (φ := Is (.int .i64 (if tkB x 0 ⟨#[108, 101, 110, 103, 116, 104]⟩ (numE 0 1099511627776) then numV 0 1099511627776 (getV x ⟨#[108, 101, 110, 103, 116, 104]⟩) else 0))) (Ψ' := fun W => Own W bo13_11 [(.int .u8 (x.k)), (.int .i64 (x.n)), (.string (x.t)), (.slice cn13_11a (x.ns.length) cn13_11c), (.slice ci13_11a (x.xs.length) ci13_11c), (.map (some bm13_11)), (.int .i64 (tkE x 0 ⟨#[108, 101, 110, 103, 116, 104]⟩ (numE 0 1099511627776)))] 74 ∧ OwnM W bm13_11 (tkA x ([]) 0 ⟨#[108, 101, 110, 103, 116, 104]⟩ (numE 0 1099511627776))) ent44 (hlc rfl) Has.cst Has.cst Has.cst (st_is _) (stE_and stE_own stE_ownM) (fun g u1 u2 u3 u4 W hk hg h1 h2 h3 h4 hP => by have h1 : u1 = _ := h1; subst u1; have h2 : u2 = _ := h2; subst u2; have h3 : u3 = _ := h3; subst u3; have h4 : u4 = _ := h4; subst u4; exact (Num_ok (x) ([]) (0) (AB.nil.mono (by omega)) hx tb13_11 ⟨#[108, 101, 110, 103, 116, 104]⟩ 0 1099511627776 W _ _ _ _ _ (fun b o h => h.2.1) (sf_notin (by simp)) ne_bo13_11_bm13_11 (sf_keepL D_cn13_11 hk (by simp)) (sf_keepL D_ci13_11 hk (by simp)) hP.1 hP.2)) ?_
     refine .i (fo 0 (hbs rfl e5) Try.underlying87 rfl sz2 rfl) ?_
     refine .done ⟨by kernel_rfl, fun a18 g W18 y18 zz18 hk hg hV hR hP => ?_⟩
     obtain ⟨e16, e15, -, -⟩ := hV
     replace e2 := (hR 2 rfl).trans e2
     replace e4 := (hR 4 rfl).trans e4
     replace e5 := (hR 5 rfl).trans e5
     replace e15 := e15.q
     have e16 : sl a18 16 = (.pointer (some ⟨b5_14, 0, none⟩)) := e16
     replace D_cn13_11 := sf_keepL D_cn13_11 hk (by simp)
     replace D_ci13_11 := sf_keepL D_ci13_11 hk (by simp)
     replace own_b2_2 := own_keepL own_b2_2 hk (by simp [ne_b2_2_bo13_11, ne_b2_2_bm13_11])
     replace own_b1_2 := own_keepL own_b1_2 hk (by simp [ne_b1_2_bo13_11, ne_b1_2_bm13_11])
     replace own_b5_14 := own_keepL own_b5_14 hk (by simp [ne_bo13_11_b5_14.symm, ne_bm13_11_b5_14.symm])
     obtain ⟨own_bo13_11, own_bm13_11⟩ := hP
     replace own_bo13_11 : Own W18 bo13_11 [(.int .u8 (x.k)), (.int .i64 (x.n)), (.string (x.t)), (.slice cn13_11a (x.ns.length) cn13_11c), (.slice ci13_11a (x.xs.length) ci13_11c), (.map (some bm13_11)), (.int .i64 (tkE x 0 ⟨#[108, 101, 110, 103, 116, 104]⟩ (numE 0 1099511627776)))] 74 := own_bo13_11
     replace own_bm13_11 : OwnM W18 bm13_11 (tkA x ([]) 0 ⟨#[108, 101, 110, 103, 116, 104]⟩ (numE 0 1099511627776)) := own_bm13_11
     replace kw := keeps_L kw hk (in_cons (.inl lo_bo13_11) (in_cons (.inl lo_bm13_11) in_nil))
     clear hR hk hg
     refine tail_store (b := b5_14) (o := 0) (v := (.int .i64 (if tkB x 0 ⟨#[108, 101, 110, 103, 116, 104]⟩ (numE 0 1099511627776) then numV 0 1099511627776 (getV x ⟨#[108, 101, 110, 103, 116, 104]⟩) else 0))) e16 e15 sz2 rfl own_b5_14 (lbr rfl) (all_cons rfl all_nil) (fun W19 hs own_b5_14 => ?_)
     have own_b5_14 : Own W19 b5_14 [(.int .i64 (if tkB x 0 ⟨#[108, 101, 110, 103, 116, 104]⟩ (numE 0 1099511627776) then numV 0 1099511627776 (getV x ⟨#[108, 101, 110, 103, 116, 104]⟩) else 0)), (.slice none 0 0), (.int .u8 (0)), (.int .i64 (0)), (.string (⟨#[]⟩)), (.slice none 0 0), (.slice none 0 0)] 87 := own_b5_14
     replace own_b2_2 := own_store own_b2_2 hs ne_b2_2_b5_14
     replace own_b1_2 := own_store own_b1_2 hs ne_b1_2_b5_14
     replace own_bo13_11 := own_store own_bo13_11 hs ne_bo13_11_b5_14
     replace own_bm13_11 := ownM_store own_bm13_11 hs ne_bm13_11_b5_14
     replace D_cn13_11 := sf_store D_cn13_11 hs (by simp)
     replace D_ci13_11 := sf_store D_ci13_11 hs (by simp)
     replace kw := keeps_store kw hs lo_b5_14
     clear hs
     refine tail_nil (hK17 _ _ ?_)
     refine wp_seq_k fun K20 hK20 => ?_
     refine wp_reg (fun k => k ∉ [bo13_11, bm13_11]) (Ψ := fun W => Own W bo13_11 [(.int .u8 (x.k)), (.int .i64 (x.n)), (.string (x.t)), (.slice cn13_11a (x.ns.length) cn13_11c), (.slice ci13_11a (x.xs.length) ci13_11c), (.map (some bm13_11)), (.int .i64 (tkE x 0 ⟨#[108, 101, 110, 103, 116, 104]⟩ (numE 0 1099511627776)))] 74 ∧ OwnM W bm13_11 (tkA x ([]) 0 ⟨#[108, 101, 110, 103, 116, 104]⟩ (numE 0 1099511627776))) mixed y18 zz18 (stE_and stE_own stE_ownM) ⟨own_bo13_11, own_bm13_11⟩ ?_
     refine .i (sp_move (hbs rfl e4)) ?_
     refine .callL3 (φ1 := Is (.pointer (some ⟨bo13_11, 0, none⟩))) (φ2 := Is (.string (⟨#[104, 97, 115, 104, 101, 115]⟩))) (φ3 := Is (.int .i64 (4))) (φ := IsD (Fr W19) (V.d (f2O x))) (Ψ' := fun W => Own W bo13_11 [(.int .u8 (x.k)), (.int .i64 (x.n)), (.string (x.t)), (.slice cn13_11a (x.ns.length) cn13_11c), (.slice ci13_11a (x.xs.length) ci13_11c), (.map (some bm13_11)), (.int .i64 (tkE x (tkE x 0 ⟨#[108, 101, 110, 103, 116, 104]⟩ (numE 0 1099511627776)) ⟨#[104, 97, 115, 104, 101, 115]⟩ (obE 4)))] 74 ∧ OwnM W bm13_11 (tkA x (tkA x ([]) 0 ⟨#[108, 101, 110, 103, 116, 104]⟩ (numE 0 1099511627776)) (tkE x 0 ⟨#[108, 101, 110, 103, 116, 104]⟩ (numE 0 1099511627776)) ⟨#[104, 97, 115, 104, 101, 115]⟩ (obE 4))) ent47 (hlc rfl) Has.cst Has.cst (st_d (sub_frnl (in_cons own_bo13_11.lt (in_cons own_bm13_11.lt in_nil)))) (stE_and stE_own stE_ownM) (fun g u1 u2 u3 W hk hg h1 h2 h3 hP => by have h1 : u1 = _ := h1; subst u1; have h2 : u2 = _ := h2; subst u2; have h3 : u3 = _ := h3; subst u3; exact (Object_ok (x) (tkA x ([]) 0 ⟨#[108, 101, 110, 103, 116, 104]⟩ (numE 0 1099511627776)) (tkE x 0 ⟨#[108, 101, 110, 103, 116, 104]⟩ (numE 0 1099511627776)) (AB.nil.tk.mono (by omega)) hx tb13_11 ⟨#[104, 97, 115, 104, 101, 115]⟩ 4 W _ _ _ _ _ (fun b o h => h.2.1) (sf_notin (by simp)) ne_bo13_11_bm13_11 (sf_keepL D_cn13_11 hk (by simp)) (sf_keepL D_ci13_11 hk (by simp)) hP.1 hP.2).mono (fun _ _ ⟨v, h1, h2, h3, h4⟩ => ⟨v, h1, h2, fresh_d hk hg h3, h4⟩)) ?_
     refine .op (φ := IsT (IsD (Fr W19) (hssD (hsOV (f2O x)))) (Is (.int .i64 (hsOE (f2O x))))) (st_t (st_d (sub_frnl (in_cons own_bo13_11.lt (in_cons own_bm13_11.lt in_nil)))) (st_is _)) (sp_call1 (φ1 := IsD (Fr W19) (V.d (f2O x))) ent129 (hlc rfl) (fun g u1 W hk hgk h1 => (HashesOf_ok (f2O x) (Nat.le_trans (f2O_wt x) hx) W _ _ h1).mono (fun _ _ ⟨v, h1, h2, r1, h3, h4⟩ => ⟨v, h1, h2, r1, _, h3, fresh_d hk hgk h4, rfl⟩))) ?_
     refine .op (φ := IsT (IsD (Fr W19) (hssD (hsOV (f2O x)))) (Is (.int .i64 (hsOE (f2O x))))) (st_t (st_d (sub_frnl (in_cons own_bo13_11.lt (in_cons own_bm13_11.lt in_nil)))) (st_is _)) (sp_move (hlc rfl)) ?_
     refine .op (φ := IsD (Fr W19) (hssD (hsOV (f2O x)))) (st_d (sub_frnl (in_cons own_bo13_11.lt (in_cons own_bm13_11.lt in_nil)))) (sp_ext2 (hlc rfl) rfl) ?_
     refine .i (v := (.int .i64 (hsOE (f2O x)))) (sp_ext2' (hlc rfl) rfl) ?_
     refine .i (fo 1 (hbs rfl e5) Try.underlying87 rfl sz85 rfl) ?_
     refine .done ⟨by kernel_rfl, fun a21 g W21 y21 zz21 hk hg hV hR hP => ?_⟩
     obtain ⟨e23, e22, e21, -, -, -, -, -⟩ := hV
     replace e2 := (hR 2 rfl).trans e2
     replace e4 := (hR 4 rfl).trans e4
     replace e5 := (hR 5 rfl).trans e5
     obtain ⟨v21_21, ev⟩ : ∃ v, sl a21 21 = v := ⟨_, rfl⟩
     rw [ev] at e21
     have D_v21_21 : Rd W21 (SF w [b5_14, bo13_11, bm13_11, b2_2, b1_2]) (hssD (hsOV (f2O x))) v21_21 := fr_end (M := [b5_14, bo13_11, bm13_11, b2_2, b1_2]) e21 kw [] in_nil (in_cons own_b5_14.lt (in_cons own_bo13_11.lt (in_cons own_bm13_11.lt (in_cons own_b2_2.lt (in_cons own_b1_2.lt in_nil)))))
     replace e21 := ev; clear ev
     obtain ⟨v21_21a, v21_21c, ev, D2⟩ := rdHss_out D_v21_21
     subst ev; replace D_v21_21 := D2; clear D2
     have e22 : sl a21 22 = (.int .i64 (hsOE (f2O x))) := e22
     have e23 : sl a21 23 = (.pointer (some ⟨b5_14, 1, none⟩)) := e23
     replace D_cn13_11 := sf_keepL D_cn13_11 hk (by simp)
     replace D_ci13_11 := sf_keepL D_ci13_11 hk (by simp)
     replace own_b2_2 := own_keepL own_b2_2 hk (by simp [ne_b2_2_bo13_11, ne_b2_2_bm13_11])
     replace own_b1_2 := own_keepL own_b1_2 hk (by simp [ne_b1_2_bo13_11, ne_b1_2_bm13_11])
     replace own_b5_14 := own_keepL own_b5_14 hk (by simp [ne_bo13_11_b5_14.symm, ne_bm13_11_b5_14.symm])
     obtain ⟨own_bo13_11, own_bm13_11⟩ := hP
     replace own_bo13_11 : Own W21 bo13_11 [(.int .u8 (x.k)), (.int .i64 (x.n)), (.string (x.t)), (.slice cn13_11a (x.ns.length) cn13_11c), (.slice ci13_11a (x.xs.length) ci13_11c), (.map (some bm13_11)), (.int .i64 (tkE x (tkE x 0 ⟨#[108, 101, 110, 103, 116, 104]⟩ (numE 0 1099511627776)) ⟨#[104, 97, 115, 104, 101, 115]⟩ (obE 4)))] 74 := own_bo13_11
     replace own_bm13_11 : OwnM W21 bm13_11 (tkA x (tkA x ([]) 0 ⟨#[108, 101, 110, 103, 116, 104]⟩ (numE 0 1099511627776)) (tkE x 0 ⟨#[108, 101, 110, 103, 116, 104]⟩ (numE 0 1099511627776)) ⟨#[104, 97, 115, 104, 101, 115]⟩ (obE 4)) := own_bm13_11
     replace kw := keeps_L kw hk (in_cons (.inl lo_bo13_11) (in_cons (.inl lo_bm13_11) in_nil))
     clear hR hk hg
     refine tail_store (b := b5_14) (o := 1) (v := (.slice v21_21a ((hsOV (f2O x)).length) v21_21c)) e23 e21 sz85 rfl own_b5_14 (lbr rfl) (all_cons rfl all_nil) (fun W22 hs own_b5_14 => ?_)
     have own_b5_14 : Own W22 b5_14 [(.int .i64 (if tkB x 0 ⟨#[108, 101, 110, 103, 116, 104]⟩ (numE 0 1099511627776) then numV 0 1099511627776 (getV x ⟨#[108, 101, 110, 103, 116, 104]⟩) else 0)), (.slice v21_21a ((hsOV (f2O x)).length) v21_21c), (.int .u8 (0)), (.int .i64 (0)), (.string (⟨#[]⟩)), (.slice none 0 0), (.slice none 0 0)] 87 := own_b5_14
     replace own_b2_2 := own_store own_b2_2 hs ne_b2_2_b5_14
     replace own_b1_2 := own_store own_b1_2 hs ne_b1_2_b5_14
     replace own_bo13_11 := own_store own_bo13_11 hs ne_bo13_11_b5_14
     replace own_bm13_11 := ownM_store own_bm13_11 hs ne_bm13_11_b5_14
     replace D_cn13_11 := sf_store D_cn13_11 hs (by simp)
     replace D_ci13_11 := sf_store D_ci13_11 hs (by simp)
     replace D_v21_21 := sf_store D_v21_21 hs (by simp)
     replace kw := keeps_store kw hs lo_b5_14
     clear hs
     refine tail_assign (v := (.int .i64 (hsOE (f2O x)))) e22 (by rw [y21]; exact Nat.le_of_ble_eq_true rfl) (fun a23 y23 zz23 e6 hr => ?_)
     replace y23 := y23.trans y21; replace zz23 := zz23.trans zz21
     replace e2 := (hr 2 (by decide)).trans e2
     replace e4 := (hr 4 (by decide)).trans e4
     replace e5 := (hr 5 (by decide)).trans e5
     replace e21 := (hr 21 (by decide)).trans e21
     replace e22 := (hr 22 (by decide)).trans e22
     replace e23 := (hr 23 (by decide)).trans e23
     clear hr
     refine tail_nil (hK20 _ _ ?_)
     refine wp_seq_k fun K24 hK24 => ?_
     refine wp_reg (fun k => k ∉ [bo13_11]) (Ψ := fun W => Own W bo13_11 [(.int .u8 (x.k)), (.int .i64 (x.n)), (.string (x.t)), (.slice cn13_11a (x.ns.length) cn13_11c), (.slice ci13_11a (x.xs.length) ci13_11c), (.map (some bm13_11)), (.int .i64 (tkE x (tkE x 0 ⟨#[108, 101, 110, 103, 116, 104]⟩ (numE 0 1099511627776)) ⟨#[104, 97, 115, 104, 101, 115]⟩ (obE 4)))] 74) mixed y23 zz23 stE_own own_bo13_11 ?_
     refine .i (sp_move (hbs rfl e4)) ?_
     refine .i (sp_move (hbs rfl e6)) ?_
     refine .callL2 (φ1 := Is (.pointer (some ⟨bo13_11, 0, none⟩))) (φ2 := Is (.int .i64 (hsOE (f2O x)))) (φ := Is (.tuple #[])) (Ψ' := fun W => Own W bo13_11 [(.int .u8 (x.k)), (.int .i64 (x.n)), (.string (x.t)), (.slice cn13_11a (x.ns.length) cn13_11c), (.slice ci13_11a (x.xs.length) ci13_11c), (.map (some bm13_11)), (.int .i64 (failK x.k (tkE x (tkE x 0 ⟨#[108, 101, 110, 103, 116, 104]⟩ (numE 0 1099511627776)) ⟨#[104, 97, 115, 104, 101, 115]⟩ (obE 4)) (hsOE (f2O x))))] 74) ent22 (hlc rfl) (hlc rfl) (st_is _) stE_own (fun g u1 u2 W hk hg h1 h2 hP => by have h1 : u1 = _ := h1; subst u1; have h2 : u2 = _ := h2; subst u2; exact (Fail_ok _ _ _ _ _ _ _ (hsOE (f2O x)) W _ hP)) ?_
     refine .done ⟨by kernel_rfl, fun a25 g W25 y25 zz25 hk hg hV hR hP => ?_⟩
     obtain ⟨-, -, -, -⟩ := hV
     replace e2 := (hR 2 rfl).trans e2
     replace e4 := (hR 4 rfl).trans e4
     replace e5 := (hR 5 rfl).trans e5
     replace D_cn13_11 := sf_keepL D_cn13_11 hk (by simp)
     replace D_ci13_11 := sf_keepL D_ci13_11 hk (by simp)
     replace D_v21_21 := sf_keepL D_v21_21 hk (by simp)
     replace own_b2_2 := own_keepL own_b2_2 hk (by simp [ne_b2_2_bo13_11])
     replace own_b1_2 := own_keepL own_b1_2 hk (by simp [ne_b1_2_bo13_11])
     replace own_bm13_11 := ownM_keepL own_bm13_11 hk (by simp [ne_bo13_11_bm13_11.symm])
     replace own_b5_14 := own_keepL own_b5_14 hk (by simp [ne_bo13_11_b5_14.symm])
     have own_bo13_11 := hP
     replace own_bo13_11 : Own W25 bo13_11 [(.int .u8 (x.k)), (.int .i64 (x.n)), (.string (x.t)), (.slice cn13_11a (x.ns.length) cn13_11c), (.slice ci13_11a (x.xs.length) ci13_11c), (.map (some bm13_11)), (.int .i64 (failK x.k (tkE x (tkE x 0 ⟨#[108, 101, 110, 103, 116, 104]⟩ (numE 0 1099511627776)) ⟨#[104, 97, 115, 104, 101, 115]⟩ (obE 4)) (hsOE (f2O x))))] 74 := own_bo13_11
     replace kw := keeps_L kw hk (in_cons (.inl lo_bo13_11) in_nil)
     clear hR hk hg hP
     refine tail_nil (hK24 _ _ ?_)
     refine wp_seq_k fun K26 hK26 => ?_
     refine wp_seq_k fun K27 hK27 => ?_
     refine rg mixed y25 zz25 ?_
     refine .i (sp_move (hbs rfl e4)) ?_
     refine .i (v := (.bool (decide (errK x.k (failK x.k (tkE x (tkE x 0 ⟨#[108, 101, 110, 103, 116, 104]⟩ (numE 0 1099511627776)) ⟨#[104, 97, 115, 104, 101, 115]⟩ (obE 4)) (hsOE (f2O x))) = 0) && getB x ⟨#[99, 117, 115, 116, 111, 109]⟩))) (sp_call2 (φ1 := Is (.pointer (some ⟨bo13_11, 0, none⟩))) (φ2 := Is (.string (⟨#[99, 117, 115, 116, 111, 109]⟩))) ent42 (hlc rfl) Has.cst (fun g u1 u2 W hk hgk h1 h2 => by have h1 : u1 = _ := h1; subst u1; have h2 : u2 = _ := h2; subst u2; exact HasO_ok (x) (failK x.k (tkE x (tkE x 0 ⟨#[108, 101, 110, 103, 116, 104]⟩ (numE 0 1099511627776)) ⟨#[104, 97, 115, 104, 101, 115]⟩ (obE 4)) (hsOE (f2O x))) hx tb13_11 (⟨#[99, 117, 115, 116, 111, 109]⟩) W _ _ _ _ _ (fun b o h => h.2.1) (D_cn13_11.ext hk) (D_ci13_11.ext hk) (own_bo13_11.ext hk))) ?_
     refine .done ⟨by kernel_rfl, fun a28 g W28 y28 zz28 hk hg hV hR hP => ?_⟩
     obtain ⟨e28, -, -⟩ := hV
     replace e2 := (hR 2 rfl).trans e2
     replace e4 := (hR 4 rfl).trans e4
     replace e5 := (hR 5 rfl).trans e5
     replace D_cn13_11 := D_cn13_11.ext hk
     replace D_ci13_11 := D_ci13_11.ext hk
     replace D_v21_21 := D_v21_21.ext hk
     replace e28 := e28.q
     replace own_b2_2 := own_b2_2.ext hk
     replace own_b1_2 := own_b1_2.ext hk
     replace own_bo13_11 := own_bo13_11.ext hk
     replace own_bm13_11 := own_bm13_11.ext hk
     replace own_b5_14 := own_b5_14.ext hk
     replace kw := kw.x hk
     clear hR hk hg hP
     refine tail_nil (hK27 _ _ ?_)
     refine wp_cond_split e28 (fun hc => ?_) (fun hc => ?_)
     ·
      have hb : f4B x = true := hc
      refine wp_reg (fun k => k ∉ [bo13_11, bm13_11]) (Ψ := fun W => Own W bo13_11 [(.int .u8 (x.k)), (.int .i64 (x.n)), (.string (x.t)), (.slice cn13_11a (x.ns.length) cn13_11c), (.slice ci13_11a (x.xs.length) ci13_11c), (.map (some bm13_11)), (.int .i64 (failK x.k (tkE x (tkE x 0 ⟨#[108, 101, 110, 103, 116, 104]⟩ (numE 0 1099511627776)) ⟨#[104, 97, 115, 104, 101, 115]⟩ (obE 4)) (hsOE (f2O x))))] 74 ∧ OwnM W bm13_11 (tkA x (tkA x ([]) 0 ⟨#[108, 101, 110, 103, 116, 104]⟩ (numE 0 1099511627776)) (tkE x 0 ⟨#[108, 101, 110, 103, 116, 104]⟩ (numE 0 1099511627776)) ⟨#[104, 97, 115, 104, 101, 115]⟩ (obE 4))) mixed y28 zz28 (stE_and stE_own stE_ownM) ⟨own_bo13_11, own_bm13_11⟩ ?_
      refine .i (sp_move (hbs rfl e4)) ?_
      refine .callL2 (φ1 := Is (.pointer (some ⟨bo13_11, 0, none⟩))) (φ2 := Is (.string (⟨#[99, 117, 115, 116, 111, 109]⟩))) (φ := IsD (Fr W28) (V.d (if tkB x (failK x.k (tkE x (tkE x 0 ⟨#[108, 101, 110, 103, 116, 104]⟩ (numE 0 1099511627776)) ⟨#[104, 97, 115, 104, 101, 115]⟩ (obE 4)) (hsOE (f2O x))) ⟨#[99, 117, 115, 116, 111, 109]⟩ anyE then getV x ⟨#[99, 117, 115, 116, 111, 109]⟩ else ⟨0, 0, ⟨#[]⟩, [], []⟩))) (Ψ' := fun W => Own W bo13_11 [(.int .u8 (x.k)), (.int .i64 (x.n)), (.string (x.t)), (.slice cn13_11a (x.ns.length) cn13_11c), (.slice ci13_11a (x.xs.length) ci13_11c), (.map (some bm13_11)), (.int .i64 (tkE x (failK x.k (tkE x (tkE x 0 ⟨#[108, 101, 110, 103, 116, 104]⟩ (numE 0 1099511627776)) ⟨#[104, 97, 115, 104, 101, 115]⟩ (obE 4)) (hsOE (f2O x))) ⟨#[99, 117, 115, 116, 111, 109]⟩ anyE))] 74 ∧ OwnM W bm13_11 (tkA x (tkA x (tkA x ([]) 0 ⟨#[108, 101, 110, 103, 116, 104]⟩ (numE 0 1099511627776)) (tkE x 0 ⟨#[108, 101, 110, 103, 116, 104]⟩ (numE 0 1099511627776)) ⟨#[104, 97, 115, 104, 101, 115]⟩ (obE 4)) (failK x.k (tkE x (tkE x 0 ⟨#[108, 101, 110, 103, 116, 104]⟩ (numE 0 1099511627776)) ⟨#[104, 97, 115, 104, 101, 115]⟩ (obE 4)) (hsOE (f2O x))) ⟨#[99, 117, 115, 116, 111, 109]⟩ anyE)) ent48 (hlc rfl) Has.cst (st_d (sub_frnl (in_cons own_bo13_11.lt (in_cons own_bm13_11.lt in_nil)))) (stE_and stE_own stE_ownM) (fun g u1 u2 W hk hg h1 h2 hP => by have h1 : u1 = _ := h1; subst u1; have h2 : u2 = _ := h2; subst u2; exact (Any_ok (x) (tkA x (tkA x ([]) 0 ⟨#[108, 101, 110, 103, 116, 104]⟩ (numE 0 1099511627776)) (tkE x 0 ⟨#[108, 101, 110, 103, 116, 104]⟩ (numE 0 1099511627776)) ⟨#[104, 97, 115, 104, 101, 115]⟩ (obE 4)) (failK x.k (tkE x (tkE x 0 ⟨#[108, 101, 110, 103, 116, 104]⟩ (numE 0 1099511627776)) ⟨#[104, 97, 115, 104, 101, 115]⟩ (obE 4)) (hsOE (f2O x))) (AB.nil.tk.tk.mono (by omega)) hx tb13_11 ⟨#[99, 117, 115, 116, 111, 109]⟩ W _ _ _ _ _ (fun b o h => h.2.1) (sf_notin (by simp)) ne_bo13_11_bm13_11 (sf_keepL D_cn13_11 hk (by simp)) (sf_keepL D_ci13_11 hk (by simp)) hP.1 hP.2).mono (fun _ _ ⟨v, h1, h2, h3, h4⟩ => ⟨v, h1, h2, fresh_d hk hg h3, h4⟩)) ?_
      refine .i (fo 2 (hbs rfl e5) Try.underlying87 rfl sz33 rfl) ?_
      refine .done ⟨by kernel_rfl, fun a29 g W29 y29 zz29 hk hg hV hR hP => ?_⟩
      obtain ⟨e31, e30, -, -⟩ := hV
      replace e2 := (hR 2 rfl).trans e2
      replace e4 := (hR 4 rfl).trans e4
      replace e5 := (hR 5 rfl).trans e5
      obtain ⟨v30_29, ev⟩ : ∃ v, sl a29 30 = v := ⟨_, rfl⟩
      rw [ev] at e30
      have D_v30_29 : Rd W29 (SF w [b5_14, bo13_11, bm13_11, b2_2, b1_2]) (V.d (if tkB x (failK x.k (tkE x (tkE x 0 ⟨#[108, 101, 110, 103, 116, 104]⟩ (numE 0 1099511627776)) ⟨#[104, 97, 115, 104, 101, 115]⟩ (obE 4)) (hsOE (f2O x))) ⟨#[99, 117, 115, 116, 111, 109]⟩ anyE then getV x ⟨#[99, 117, 115, 116, 111, 109]⟩ else ⟨0, 0, ⟨#[]⟩, [], []⟩)) v30_29 := fr_end (M := [b5_14, bo13_11, bm13_11, b2_2, b1_2]) e30 kw [] in_nil (in_cons own_b5_14.lt (in_cons own_bo13_11.lt (in_cons own_bm13_11.lt (in_cons own_b2_2.lt (in_cons own_b1_2.lt in_nil)))))
      replace e30 := ev; clear ev
      obtain ⟨cn30_29a, cn30_29c, ci30_29a, ci30_29c, ev, ht_v30_29, D_cn30_29, D_ci30_29⟩ := rdV_out D_v30_29
      subst ev; clear D_v30_29
      have e31 : sl a29 31 = (.pointer (some ⟨b5_14, 2, none⟩)) := e31
      replace D_cn13_11 := sf_keepL D_cn13_11 hk (by simp)
      replace D_ci13_11 := sf_keepL D_ci13_11 hk (by simp)
      replace D_v21_21 := sf_keepL D_v21_21 hk (by simp)
      replace own_b2_2 := own_keepL own_b2_2 hk (by simp [ne_b2_2_bo13_11, ne_b2_2_bm13_11])
      replace own_b1_2 := own_keepL own_b1_2 hk (by simp [ne_b1_2_bo13_11, ne_b1_2_bm13_11])
      replace own_b5_14 := own_keepL own_b5_14 hk (by simp [ne_bo13_11_b5_14.symm, ne_bm13_11_b5_14.symm])
      obtain ⟨own_bo13_11, own_bm13_11⟩ := hP
      replace own_bo13_11 : Own W29 bo13_11 [(.int .u8 (x.k)), (.int .i64 (x.n)), (.string (x.t)), (.slice cn13_11a (x.ns.length) cn13_11c), (.slice ci13_11a (x.xs.length) ci13_11c), (.map (some bm13_11)), (.int .i64 (tkE x (failK x.k (tkE x (tkE x 0 ⟨#[108, 101, 110, 103, 116, 104]⟩ (numE 0 1099511627776)) ⟨#[104, 97, 115, 104, 101, 115]⟩ (obE 4)) (hsOE (f2O x))) ⟨#[99, 117, 115, 116, 111, 109]⟩ anyE))] 74 := own_bo13_11
      replace own_bm13_11 : OwnM W29 bm13_11 (tkA x (tkA x (tkA x ([]) 0 ⟨#[108, 101, 110, 103, 116, 104]⟩ (numE 0 1099511627776)) (tkE x 0 ⟨#[108, 101, 110, 103, 116, 104]⟩ (numE 0 1099511627776)) ⟨#[104, 97, 115, 104, 101, 115]⟩ (obE 4)) (failK x.k (tkE x (tkE x 0 ⟨#[108, 101, 110, 103, 116, 104]⟩ (numE 0 1099511627776)) ⟨#[104, 97, 115, 104, 101, 115]⟩ (obE 4)) (hsOE (f2O x))) ⟨#[99, 117, 115, 116, 111, 109]⟩ anyE) := own_bm13_11
      replace kw := keeps_L kw hk (in_cons (.inl lo_bo13_11) (in_cons (.inl lo_bm13_11) in_nil))
      clear hR hk hg
      refine tail_store (b := b5_14) (o := 2) (v := (.agg #[(.int .u8 ((if tkB x (failK x.k (tkE x (tkE x 0 ⟨#[108, 101, 110, 103, 116, 104]⟩ (numE 0 1099511627776)) ⟨#[104, 97, 115, 104, 101, 115]⟩ (obE 4)) (hsOE (f2O x))) ⟨#[99, 117, 115, 116, 111, 109]⟩ anyE then getV x ⟨#[99, 117, 115, 116, 111, 109]⟩ else ⟨0, 0, ⟨#[]⟩, [], []⟩).k)), (.int .i64 ((if tkB x (failK x.k (tkE x (tkE x 0 ⟨#[108, 101, 110, 103, 116, 104]⟩ (numE 0 1099511627776)) ⟨#[104, 97, 115, 104, 101, 115]⟩ (obE 4)) (hsOE (f2O x))) ⟨#[99, 117, 115, 116, 111, 109]⟩ anyE then getV x ⟨#[99, 117, 115, 116, 111, 109]⟩ else ⟨0, 0, ⟨#[]⟩, [], []⟩).n)), (.string ((if tkB x (failK x.k (tkE x (tkE x 0 ⟨#[108, 101, 110, 103, 116, 104]⟩ (numE 0 1099511627776)) ⟨#[104, 97, 115, 104, 101, 115]⟩ (obE 4)) (hsOE (f2O x))) ⟨#[99, 117, 115, 116, 111, 109]⟩ anyE then getV x ⟨#[99, 117, 115, 116, 111, 109]⟩ else ⟨0, 0, ⟨#[]⟩, [], []⟩).t)), (.slice cn30_29a (((if tkB x (failK x.k (tkE x (tkE x 0 ⟨#[108, 101, 110, 103, 116, 104]⟩ (numE 0 1099511627776)) ⟨#[104, 97, 115, 104, 101, 115]⟩ (obE 4)) (hsOE (f2O x))) ⟨#[99, 117, 115, 116, 111, 109]⟩ anyE then getV x ⟨#[99, 117, 115, 116, 111, 109]⟩ else ⟨0, 0, ⟨#[]⟩, [], []⟩).ns).length) cn30_29c), (.slice ci30_29a (((if tkB x (failK x.k (tkE x (tkE x 0 ⟨#[108, 101, 110, 103, 116, 104]⟩ (numE 0 1099511627776)) ⟨#[104, 97, 115, 104, 101, 115]⟩ (obE 4)) (hsOE (f2O x))) ⟨#[99, 117, 115, 116, 111, 109]⟩ anyE then getV x ⟨#[99, 117, 115, 116, 111, 109]⟩ else ⟨0, 0, ⟨#[]⟩, [], []⟩).xs).length) ci30_29c)])) e31 e30 sz33 rfl own_b5_14 (lbr rfl) (all_cons rfl (all_cons rfl (all_cons rfl (all_cons rfl (all_cons rfl all_nil))))) (fun W30 hs own_b5_14 => ?_)
      have own_b5_14 : Own W30 b5_14 [(.int .i64 (if tkB x 0 ⟨#[108, 101, 110, 103, 116, 104]⟩ (numE 0 1099511627776) then numV 0 1099511627776 (getV x ⟨#[108, 101, 110, 103, 116, 104]⟩) else 0)), (.slice v21_21a ((hsOV (f2O x)).length) v21_21c), (.int .u8 ((if tkB x (failK x.k (tkE x (tkE x 0 ⟨#[108, 101, 110, 103, 116, 104]⟩ (numE 0 1099511627776)) ⟨#[104, 97, 115, 104, 101, 115]⟩ (obE 4)) (hsOE (f2O x))) ⟨#[99, 117, 115, 116, 111, 109]⟩ anyE then getV x ⟨#[99, 117, 115, 116, 111, 109]⟩ else ⟨0, 0, ⟨#[]⟩, [], []⟩).k)), (.int .i64 ((if tkB x (failK x.k (tkE x (tkE x 0 ⟨#[108, 101, 110, 103, 116, 104]⟩ (numE 0 1099511627776)) ⟨#[104, 97, 115, 104, 101, 115]⟩ (obE 4)) (hsOE (f2O x))) ⟨#[99, 117, 115, 116, 111, 109]⟩ anyE then getV x ⟨#[99, 117, 115, 116, 111, 109]⟩ else ⟨0, 0, ⟨#[]⟩, [], []⟩).n)), (.string ((if tkB x (failK x.k (tkE x (tkE x 0 ⟨#[108, 101, 110, 103, 116, 104]⟩ (numE 0 1099511627776)) ⟨#[104, 97, 115, 104, 101, 115]⟩ (obE 4)) (hsOE (f2O x))) ⟨#[99, 117, 115, 116, 111, 109]⟩ anyE then getV x ⟨#[99, 117, 115, 116, 111, 109]⟩ else ⟨0, 0, ⟨#[]⟩, [], []⟩).t)), (.slice cn30_29a (((if tkB x (failK x.k (tkE x (tkE x 0 ⟨#[108, 101, 110, 103, 116, 104]⟩ (numE 0 1099511627776)) ⟨#[104, 97, 115, 104, 101, 115]⟩ (obE 4)) (hsOE (f2O x))) ⟨#[99, 117, 115, 116, 111, 109]⟩ anyE then getV x ⟨#[99, 117, 115, 116, 111, 109]⟩ else ⟨0, 0, ⟨#[]⟩, [], []⟩).ns).length) cn30_29c), (.slice ci30_29a (((if tkB x (failK x.k (tkE x (tkE x 0 ⟨#[108, 101, 110, 103, 116, 104]⟩ (numE 0 1099511627776)) ⟨#[104, 97, 115, 104, 101, 115]⟩ (obE 4)) (hsOE (f2O x))) ⟨#[99, 117, 115, 116, 111, 109]⟩ anyE then getV x ⟨#[99, 117, 115, 116, 111, 109]⟩ else ⟨0, 0, ⟨#[]⟩, [], []⟩).xs).length) ci30_29c)] 87 := own_b5_14
      replace own_b2_2 := own_store own_b2_2 hs ne_b2_2_b5_14
      replace own_b1_2 := own_store own_b1_2 hs ne_b1_2_b5_14
      replace own_bo13_11 := own_store own_bo13_11 hs ne_bo13_11_b5_14
      replace own_bm13_11 := ownM_store own_bm13_11 hs ne_bm13_11_b5_14
      replace D_cn13_11 := sf_store D_cn13_11 hs (by simp)
      replace D_ci13_11 := sf_store D_ci13_11 hs (by simp)
      replace D_v21_21 := sf_store D_v21_21 hs (by simp)
      replace D_cn30_29 := sf_store D_cn30_29 hs (by simp)
      replace D_ci30_29 := sf_store D_ci30_29 hs (by simp)
      replace kw := keeps_store kw hs lo_b5_14
      clear hs
      refine tail_nil (hK26 _ _ ?_)
      refine wp_seq_k fun K31 hK31 => ?_
      refine wp_seq_k fun K32 hK32 => ?_
      refine rg mixed y29 zz29 ?_
      refine .i (sp_move (hbs rfl e4)) ?_
      refine .i (v := (.int .i64 (doneE x (tkA x (tkA x (tkA x ([]) 0 ⟨#[108, 101, 110, 103, 116, 104]⟩ (numE 0 1099511627776)) (tkE x 0 ⟨#[108, 101, 110, 103, 116, 104]⟩ (numE 0 1099511627776)) ⟨#[104, 97, 115, 104, 101, 115]⟩ (obE 4)) (failK x.k (tkE x (tkE x 0 ⟨#[108, 101, 110, 103, 116, 104]⟩ (numE 0 1099511627776)) ⟨#[104, 97, 115, 104, 101, 115]⟩ (obE 4)) (hsOE (f2O x))) ⟨#[99, 117, 115, 116, 111, 109]⟩ anyE) (tkE x (failK x.k (tkE x (tkE x 0 ⟨#[108, 101, 110, 103, 116, 104]⟩ (numE 0 1099511627776)) ⟨#[104, 97, 115, 104, 101, 115]⟩ (obE 4)) (hsOE (f2O x))) ⟨#[99, 117, 115, 116, 111, 109]⟩ anyE)))) (sp_call1 (φ1 := Is (.pointer (some ⟨bo13_11, 0, none⟩))) ent32 (hlc rfl) (fun g u1 W hk hgk h1 => by have h1 : u1 = _ := h1; subst u1; exact Done_ok (x) (tkA x (tkA x (tkA x ([]) 0 ⟨#[108, 101, 110, 103, 116, 104]⟩ (numE 0 1099511627776)) (tkE x 0 ⟨#[108, 101, 110, 103, 116, 104]⟩ (numE 0 1099511627776)) ⟨#[104, 97, 115, 104, 101, 115]⟩ (obE 4)) (failK x.k (tkE x (tkE x 0 ⟨#[108, 101, 110, 103, 116, 104]⟩ (numE 0 1099511627776)) ⟨#[104, 97, 115, 104, 101, 115]⟩ (obE 4)) (hsOE (f2O x))) ⟨#[99, 117, 115, 116, 111, 109]⟩ anyE) (tkE x (failK x.k (tkE x (tkE x 0 ⟨#[108, 101, 110, 103, 116, 104]⟩ (numE 0 1099511627776)) ⟨#[104, 97, 115, 104, 101, 115]⟩ (obE 4)) (hsOE (f2O x))) ⟨#[99, 117, 115, 116, 111, 109]⟩ anyE) W _ _ _ _ _ (D_cn13_11.ext hk) (own_bo13_11.ext hk) (own_bm13_11.ext hk))) ?_
      refine .i (sp_assign (hlc rfl)) ?_
      refine .done ⟨by kernel_rfl, fun a33 g W33 y33 zz33 hk hg hV hR hP => ?_⟩
      obtain ⟨e7, -, -, -⟩ := hV
      replace e2 := (hR 2 rfl).trans e2
      replace e5 := (hR 5 rfl).trans e5
      replace D_cn13_11 := D_cn13_11.ext hk
      replace D_ci13_11 := D_ci13_11.ext hk
      replace D_v21_21 := D_v21_21.ext hk
      replace D_cn30_29 := D_cn30_29.ext hk
      replace D_ci30_29 := D_ci30_29.ext hk
      replace e7 := e7.q
      replace own_b2_2 := own_b2_2.ext hk
      replace own_b1_2 := own_b1_2.ext hk
      replace own_bo13_11 := own_bo13_11.ext hk
      replace own_bm13_11 := own_bm13_11.ext hk
      replace own_b5_14 := own_b5_14.ext hk
      replace kw := kw.x hk
      clear hR hk hg hP
      refine tail_nil (hK32 _ _ ?_)
      refine wp_seq_k fun K34 hK34 => ?_
      refine rg mixed y33 zz33 ?_
      refine .i (sp_move (hbs rfl e7)) ?_
      refine .i (sp_neq (hlc rfl) Has.cst) ?_
      refine .done ⟨by kernel_rfl, fun a35 g W35 y35 zz35 hk hg hV hR hP => ?_⟩
      obtain ⟨e35, -, -⟩ := hV
      replace e2 := (hR 2 rfl).trans e2
      replace e5 := (hR 5 rfl).trans e5
      replace e7 := (hR 7 rfl).trans e7
      replace D_v21_21 := D_v21_21.ext hk
      replace D_cn30_29 := D_cn30_29.ext hk
      replace D_ci30_29 := D_ci30_29.ext hk
      replace e35 := e35.q
      replace own_b2_2 := own_b2_2.ext hk
      replace own_b1_2 := own_b1_2.ext hk
      replace own_bo13_11 := own_bo13_11.ext hk
      replace own_bm13_11 := own_bm13_11.ext hk
      replace own_b5_14 := own_b5_14.ext hk
      replace kw := kw.x hk
      clear hR hk hg hP
      refine tail_nil (hK34 _ _ ?_)
      refine wp_cond_split e35 (fun hc => ?_) (fun hc => ?_)
      ·
       have hd := bne_iff_ne.1 hc
       have hdE : ofRE x = doneE x (tkA x (f2A x) (f3E x) sCustom anyE) (tkE x (f3E x) sCustom anyE) := by rw [ofRE, if_neg hm, if_neg (by simp [hof]), f4A, f4E, if_pos hb, if_pos hb]
       have hoe := hdE
       have hov : ofRV x = ⟨0, [], ⟨0, 0, ⟨#[]⟩, [], []⟩⟩ := by rw [ofRV, if_neg (by rw [hoe]; exact hd)]
       refine wp_seq_k fun K36 hK36 => ?_
       refine rg mixed y35 zz35 ?_
       refine .i (v := (.agg #[(.int .i64 (0)), (.slice none 0 0), (.int .u8 (0)), (.int .i64 (0)), (.string (⟨#[]⟩)), (.slice none 0 0), (.slice none 0 0)])) (sp_build (vs := []) Try.underlying87 z87 (pl87 Try.underlying87) trivial rfl) ?_
       refine .i (sp_move (hbs rfl e7)) ?_
       refine .done ⟨by kernel_rfl, fun a37 g W37 y37 zz37 hk hg hV hR hP => ?_⟩
       obtain ⟨e37, e36, -⟩ := hV
       replace e2 := (hR 2 rfl).trans e2
       replace D_v21_21 := D_v21_21.ext hk
       replace D_cn30_29 := D_cn30_29.ext hk
       replace D_ci30_29 := D_ci30_29.ext hk
       replace e36 := e36.q
       replace e37 := e37.q
       replace own_b2_2 := own_b2_2.ext hk
       replace own_b1_2 := own_b1_2.ext hk
       replace own_bo13_11 := own_bo13_11.ext hk
       replace own_bm13_11 := own_bm13_11.ext hk
       replace own_b5_14 := own_b5_14.ext hk
       replace kw := kw.x hk
       clear hR hk hg hP
       refine tail_store (b := b2_2) (o := 0) (v := (.agg #[(.int .i64 (0)), (.slice none 0 0), (.int .u8 (0)), (.int .i64 (0)), (.string (⟨#[]⟩)), (.slice none 0 0), (.slice none 0 0)])) e2 e36 sz87 rfl own_b2_2 (lbr rfl) (all_cons rfl (all_cons rfl (all_cons rfl (all_cons rfl (all_cons rfl (all_cons rfl (all_cons rfl all_nil))))))) (fun W38 hs own_b2_2 => ?_)
       have own_b2_2 : Own W38 b2_2 [(.int .i64 (0)), (.slice none 0 0), (.int .u8 (0)), (.int .i64 (0)), (.string (⟨#[]⟩)), (.slice none 0 0), (.slice none 0 0)] 87 := own_b2_2
       replace own_b1_2 := own_store own_b1_2 hs ne_b2_2_b1_2.symm
       replace own_bo13_11 := own_store own_bo13_11 hs ne_b2_2_bo13_11.symm
       replace own_bm13_11 := ownM_store own_bm13_11 hs ne_b2_2_bm13_11.symm
       replace own_b5_14 := own_store own_b5_14 hs ne_b2_2_b5_14.symm
       replace D_v21_21 := sf_store D_v21_21 hs (by simp)
       replace D_cn30_29 := sf_store D_cn30_29 hs (by simp)
       replace D_ci30_29 := sf_store D_ci30_29 hs (by simp)
       replace kw := keeps_store kw hs lo_b2_2
       clear hs
       refine tail_assign (v := (.int .i64 (doneE x (tkA x (tkA x (tkA x ([]) 0 ⟨#[108, 101, 110, 103, 116, 104]⟩ (numE 0 1099511627776)) (tkE x 0 ⟨#[108, 101, 110, 103, 116, 104]⟩ (numE 0 1099511627776)) ⟨#[104, 97, 115, 104, 101, 115]⟩ (obE 4)) (failK x.k (tkE x (tkE x 0 ⟨#[108, 101, 110, 103, 116, 104]⟩ (numE 0 1099511627776)) ⟨#[104, 97, 115, 104, 101, 115]⟩ (obE 4)) (hsOE (f2O x))) ⟨#[99, 117, 115, 116, 111, 109]⟩ anyE) (tkE x (failK x.k (tkE x (tkE x 0 ⟨#[108, 101, 110, 103, 116, 104]⟩ (numE 0 1099511627776)) ⟨#[104, 97, 115, 104, 101, 115]⟩ (obE 4)) (hsOE (f2O x))) ⟨#[99, 117, 115, 116, 111, 109]⟩ anyE)))) e37 (by rw [y37]; exact Nat.le_of_ble_eq_true rfl) (fun a39 y39 zz39 e3 hr => ?_)
       replace y39 := y39.trans y37; replace zz39 := zz39.trans zz37
       replace e2 := (hr 2 (by decide)).trans e2
       replace e36 := (hr 36 (by decide)).trans e36
       replace e37 := (hr 37 (by decide)).trans e37
       clear hr
       refine tail_nil (hK36 _ _ ?_)
       refine wp_ret ?_
       refine (show bodyPost Try.prog Try.f72 _ .ret _ _ from retCT (v := (.agg #[(.int .i64 (0)), (.slice none 0 0), (.int .u8 (0)), (.int .i64 (0)), (.string (⟨#[]⟩)), (.slice none 0 0), (.slice none 0 0)])) rfl zz39 e2 own_b2_2 agg87 sz87 rfl (fun h => by cases h) rfl e3 ⟨_, rfl, kw, ?_⟩)
       refine ⟨_, congrArg (fun q => Value.tuple #[_, Value.int .i64 q]) hoe.symm, ?_⟩
       rw [hov]
       exact sf_fr (rdRc_mk (rd_nil _) (rdV_mk (lbr rfl) (rd_nil _) (rd_nil _) : Rd W38 (SF w [b5_14, bo13_11, bm13_11, b2_2, b1_2]) (V.d (V.mk (0) (0) (⟨#[]⟩) ([]) ([]))) _) : Rd W38 (SF w [b5_14, bo13_11, bm13_11, b2_2, b1_2]) (Rc.d (Rc.mk (0) ([]) (V.mk (0) (0) (⟨#[]⟩) ([]) ([])))) _)
      ·
       have hd := bne_eq_false_iff_eq.1 hc
       have hdE : ofRE x = doneE x (tkA x (f2A x) (f3E x) sCustom anyE) (tkE x (f3E x) sCustom anyE) := by rw [ofRE, if_neg hm, if_neg (by simp [hof]), f4A, f4E, if_pos hb, if_pos hb]
       have hoe : ofRE x = 0 := hdE.trans hd
       have hov : ofRV x = ⟨f1N x, hsOV (f2O x), if tkB x (f3E x) sCustom anyE then getV x sCustom else ⟨0, 0, ⟨#[]⟩, [], []⟩⟩ := by rw [ofRV, if_pos hoe, f4V, if_pos hb]
       refine wp_skip (hK31 _ _ ?_)
       refine wp_seq_k fun K40 hK40 => ?_
       refine rg mixed y35 zz35 ?_
       refine .i (v := (.agg #[(.int .i64 (if tkB x 0 ⟨#[108, 101, 110, 103, 116, 104]⟩ (numE 0 1099511627776) then numV 0 1099511627776 (getV x ⟨#[108, 101, 110, 103, 116, 104]⟩) else 0)), (.slice v21_21a ((hsOV (f2O x)).length) v21_21c), (.int .u8 ((if tkB x (failK x.k (tkE x (tkE x 0 ⟨#[108, 101, 110, 103, 116, 104]⟩ (numE 0 1099511627776)) ⟨#[104, 97, 115, 104, 101, 115]⟩ (obE 4)) (hsOE (f2O x))) ⟨#[99, 117, 115, 116, 111, 109]⟩ anyE then getV x ⟨#[99, 117, 115, 116, 111, 109]⟩ else ⟨0, 0, ⟨#[]⟩, [], []⟩).k)), (.int .i64 ((if tkB x (failK x.k (tkE x (tkE x 0 ⟨#[108, 101, 110, 103, 116, 104]⟩ (numE 0 1099511627776)) ⟨#[104, 97, 115, 104, 101, 115]⟩ (obE 4)) (hsOE (f2O x))) ⟨#[99, 117, 115, 116, 111, 109]⟩ anyE then getV x ⟨#[99, 117, 115, 116, 111, 109]⟩ else ⟨0, 0, ⟨#[]⟩, [], []⟩).n)), (.string ((if tkB x (failK x.k (tkE x (tkE x 0 ⟨#[108, 101, 110, 103, 116, 104]⟩ (numE 0 1099511627776)) ⟨#[104, 97, 115, 104, 101, 115]⟩ (obE 4)) (hsOE (f2O x))) ⟨#[99, 117, 115, 116, 111, 109]⟩ anyE then getV x ⟨#[99, 117, 115, 116, 111, 109]⟩ else ⟨0, 0, ⟨#[]⟩, [], []⟩).t)), (.slice cn30_29a (((if tkB x (failK x.k (tkE x (tkE x 0 ⟨#[108, 101, 110, 103, 116, 104]⟩ (numE 0 1099511627776)) ⟨#[104, 97, 115, 104, 101, 115]⟩ (obE 4)) (hsOE (f2O x))) ⟨#[99, 117, 115, 116, 111, 109]⟩ anyE then getV x ⟨#[99, 117, 115, 116, 111, 109]⟩ else ⟨0, 0, ⟨#[]⟩, [], []⟩).ns).length) cn30_29c), (.slice ci30_29a (((if tkB x (failK x.k (tkE x (tkE x 0 ⟨#[108, 101, 110, 103, 116, 104]⟩ (numE 0 1099511627776)) ⟨#[104, 97, 115, 104, 101, 115]⟩ (obE 4)) (hsOE (f2O x))) ⟨#[99, 117, 115, 116, 111, 109]⟩ anyE then getV x ⟨#[99, 117, 115, 116, 111, 109]⟩ else ⟨0, 0, ⟨#[]⟩, [], []⟩).xs).length) ci30_29c)])) (loA (hbs rfl e5) own_b5_14 trivial agg87 sz87 rfl rfl) ?_
       refine .done ⟨by kernel_rfl, fun a41 g W41 y41 zz41 hk hg hV hR hP => ?_⟩
       obtain ⟨e38, -⟩ := hV
       replace e2 := (hR 2 rfl).trans e2
       replace D_v21_21 := D_v21_21.ext hk
       replace D_cn30_29 := D_cn30_29.ext hk
       replace D_ci30_29 := D_ci30_29.ext hk
       replace e38 := e38.q
       replace own_b2_2 := own_b2_2.ext hk
       replace own_b1_2 := own_b1_2.ext hk
       replace own_bo13_11 := own_bo13_11.ext hk
       replace own_bm13_11 := own_bm13_11.ext hk
       replace own_b5_14 := own_b5_14.ext hk
       replace kw := kw.x hk
       clear hR hk hg hP
       refine tail_store (b := b2_2) (o := 0) (v := (.agg #[(.int .i64 (if tkB x 0 ⟨#[108, 101, 110, 103, 116, 104]⟩ (numE 0 1099511627776) then numV 0 1099511627776 (getV x ⟨#[108, 101, 110, 103, 116, 104]⟩) else 0)), (.slice v21_21a ((hsOV (f2O x)).length) v21_21c), (.int .u8 ((if tkB x (failK x.k (tkE x (tkE x 0 ⟨#[108, 101, 110, 103, 116, 104]⟩ (numE 0 1099511627776)) ⟨#[104, 97, 115, 104, 101, 115]⟩ (obE 4)) (hsOE (f2O x))) ⟨#[99, 117, 115, 116, 111, 109]⟩ anyE then getV x ⟨#[99, 117, 115, 116, 111, 109]⟩ else ⟨0, 0, ⟨#[]⟩, [], []⟩).k)), (.int .i64 ((if tkB x (failK x.k (tkE x (tkE x 0 ⟨#[108, 101, 110, 103, 116, 104]⟩ (numE 0 1099511627776)) ⟨#[104, 97, 115, 104, 101, 115]⟩ (obE 4)) (hsOE (f2O x))) ⟨#[99, 117, 115, 116, 111, 109]⟩ anyE then getV x ⟨#[99, 117, 115, 116, 111, 109]⟩ else ⟨0, 0, ⟨#[]⟩, [], []⟩).n)), (.string ((if tkB x (failK x.k (tkE x (tkE x 0 ⟨#[108, 101, 110, 103, 116, 104]⟩ (numE 0 1099511627776)) ⟨#[104, 97, 115, 104, 101, 115]⟩ (obE 4)) (hsOE (f2O x))) ⟨#[99, 117, 115, 116, 111, 109]⟩ anyE then getV x ⟨#[99, 117, 115, 116, 111, 109]⟩ else ⟨0, 0, ⟨#[]⟩, [], []⟩).t)), (.slice cn30_29a (((if tkB x (failK x.k (tkE x (tkE x 0 ⟨#[108, 101, 110, 103, 116, 104]⟩ (numE 0 1099511627776)) ⟨#[104, 97, 115, 104, 101, 115]⟩ (obE 4)) (hsOE (f2O x))) ⟨#[99, 117, 115, 116, 111, 109]⟩ anyE then getV x ⟨#[99, 117, 115, 116, 111, 109]⟩ else ⟨0, 0, ⟨#[]⟩, [], []⟩).ns).length) cn30_29c), (.slice ci30_29a (((if tkB x (failK x.k (tkE x (tkE x 0 ⟨#[108, 101, 110, 103, 116, 104]⟩ (numE 0 1099511627776)) ⟨#[104, 97, 115, 104, 101, 115]⟩ (obE 4)) (hsOE (f2O x))) ⟨#[99, 117, 115, 116, 111, 109]⟩ anyE then getV x ⟨#[99, 117, 115, 116, 111, 109]⟩ else ⟨0, 0, ⟨#[]⟩, [], []⟩).xs).length) ci30_29c)])) e2 e38 sz87 rfl own_b2_2 (lbr rfl) (all_cons rfl (all_cons rfl (all_cons rfl (all_cons rfl (all_cons rfl (all_cons rfl (all_cons rfl all_nil))))))) (fun W42 hs own_b2_2 => ?_)
       have own_b2_2 : Own W42 b2_2 [(.int .i64 (if tkB x 0 ⟨#[108, 101, 110, 103, 116, 104]⟩ (numE 0 1099511627776) then numV 0 1099511627776 (getV x ⟨#[108, 101, 110, 103, 116, 104]⟩) else 0)), (.slice v21_21a ((hsOV (f2O x)).length) v21_21c), (.int .u8 ((if tkB x (failK x.k (tkE x (tkE x 0 ⟨#[108, 101, 110, 103, 116, 104]⟩ (numE 0 1099511627776)) ⟨#[104, 97, 115, 104, 101, 115]⟩ (obE 4)) (hsOE (f2O x))) ⟨#[99, 117, 115, 116, 111, 109]⟩ anyE then getV x ⟨#[99, 117, 115, 116, 111, 109]⟩ else ⟨0, 0, ⟨#[]⟩, [], []⟩).k)), (.int .i64 ((if tkB x (failK x.k (tkE x (tkE x 0 ⟨#[108, 101, 110, 103, 116, 104]⟩ (numE 0 1099511627776)) ⟨#[104, 97, 115, 104, 101, 115]⟩ (obE 4)) (hsOE (f2O x))) ⟨#[99, 117, 115, 116, 111, 109]⟩ anyE then getV x ⟨#[99, 117, 115, 116, 111, 109]⟩ else ⟨0, 0, ⟨#[]⟩, [], []⟩).n)), (.string ((if tkB x (failK x.k (tkE x (tkE x 0 ⟨#[108, 101, 110, 103, 116, 104]⟩ (numE 0 1099511627776)) ⟨#[104, 97, 115, 104, 101, 115]⟩ (obE 4)) (hsOE (f2O x))) ⟨#[99, 117, 115, 116, 111, 109]⟩ anyE then getV x ⟨#[99, 117, 115, 116, 111, 109]⟩ else ⟨0, 0, ⟨#[]⟩, [], []⟩).t)), (.slice cn30_29a (((if tkB x (failK x.k (tkE x (tkE x 0 ⟨#[108, 101, 110, 103, 116, 104]⟩ (numE 0 1099511627776)) ⟨#[104, 97, 115, 104, 101, 115]⟩ (obE 4)) (hsOE (f2O x))) ⟨#[99, 117, 115, 116, 111, 109]⟩ anyE then getV x ⟨#[99, 117, 115, 116, 111, 109]⟩ else ⟨0, 0, ⟨#[]⟩, [], []⟩).ns).length) cn30_29c), (.slice ci30_29a (((if tkB x (failK x.k (tkE x (tkE x 0 ⟨#[108, 101, 110, 103, 116, 104]⟩ (numE 0 1099511627776)) ⟨#[104, 97, 115, 104, 101, 115]⟩ (obE 4)) (hsOE (f2O x))) ⟨#[99, 117, 115, 116, 111, 109]⟩ anyE then getV x ⟨#[99, 117, 115, 116, 111, 109]⟩ else ⟨0, 0, ⟨#[]⟩, [], []⟩).xs).length) ci30_29c)] 87 := own_b2_2
       replace own_b1_2 := own_store own_b1_2 hs ne_b2_2_b1_2.symm
       replace own_bo13_11 := own_store own_bo13_11 hs ne_b2_2_bo13_11.symm
       replace own_bm13_11 := ownM_store own_bm13_11 hs ne_b2_2_bm13_11.symm
       replace own_b5_14 := own_store own_b5_14 hs ne_b2_2_b5_14.symm
       replace D_v21_21 := sf_store D_v21_21 hs (by simp)
       replace D_cn30_29 := sf_store D_cn30_29 hs (by simp)
       replace D_ci30_29 := sf_store D_ci30_29 hs (by simp)
       replace kw := keeps_store kw hs lo_b2_2
       clear hs
       refine tail_assign (v := (.int .i64 (0))) rfl (by rw [y41]; exact Nat.le_of_ble_eq_true rfl) (fun a43 y43 zz43 e3 hr => ?_)
       replace y43 := y43.trans y41; replace zz43 := zz43.trans zz41
       replace e2 := (hr 2 (by decide)).trans e2
       replace e38 := (hr 38 (by decide)).trans e38
       clear hr
       refine tail_nil (hK40 _ _ ?_)
       refine wp_ret ?_
       refine (show bodyPost Try.prog Try.f72 _ .ret _ _ from retCT (v := (.agg #[(.int .i64 (if tkB x 0 ⟨#[108, 101, 110, 103, 116, 104]⟩ (numE 0 1099511627776) then numV 0 1099511627776 (getV x ⟨#[108, 101, 110, 103, 116, 104]⟩) else 0)), (.slice v21_21a ((hsOV (f2O x)).length) v21_21c), (.int .u8 ((if tkB x (failK x.k (tkE x (tkE x 0 ⟨#[108, 101, 110, 103, 116, 104]⟩ (numE 0 1099511627776)) ⟨#[104, 97, 115, 104, 101, 115]⟩ (obE 4)) (hsOE (f2O x))) ⟨#[99, 117, 115, 116, 111, 109]⟩ anyE then getV x ⟨#[99, 117, 115, 116, 111, 109]⟩ else ⟨0, 0, ⟨#[]⟩, [], []⟩).k)), (.int .i64 ((if tkB x (failK x.k (tkE x (tkE x 0 ⟨#[108, 101, 110, 103, 116, 104]⟩ (numE 0 1099511627776)) ⟨#[104, 97, 115, 104, 101, 115]⟩ (obE 4)) (hsOE (f2O x))) ⟨#[99, 117, 115, 116, 111, 109]⟩ anyE then getV x ⟨#[99, 117, 115, 116, 111, 109]⟩ else ⟨0, 0, ⟨#[]⟩, [], []⟩).n)), (.string ((if tkB x (failK x.k (tkE x (tkE x 0 ⟨#[108, 101, 110, 103, 116, 104]⟩ (numE 0 1099511627776)) ⟨#[104, 97, 115, 104, 101, 115]⟩ (obE 4)) (hsOE (f2O x))) ⟨#[99, 117, 115, 116, 111, 109]⟩ anyE then getV x ⟨#[99, 117, 115, 116, 111, 109]⟩ else ⟨0, 0, ⟨#[]⟩, [], []⟩).t)), (.slice cn30_29a (((if tkB x (failK x.k (tkE x (tkE x 0 ⟨#[108, 101, 110, 103, 116, 104]⟩ (numE 0 1099511627776)) ⟨#[104, 97, 115, 104, 101, 115]⟩ (obE 4)) (hsOE (f2O x))) ⟨#[99, 117, 115, 116, 111, 109]⟩ anyE then getV x ⟨#[99, 117, 115, 116, 111, 109]⟩ else ⟨0, 0, ⟨#[]⟩, [], []⟩).ns).length) cn30_29c), (.slice ci30_29a (((if tkB x (failK x.k (tkE x (tkE x 0 ⟨#[108, 101, 110, 103, 116, 104]⟩ (numE 0 1099511627776)) ⟨#[104, 97, 115, 104, 101, 115]⟩ (obE 4)) (hsOE (f2O x))) ⟨#[99, 117, 115, 116, 111, 109]⟩ anyE then getV x ⟨#[99, 117, 115, 116, 111, 109]⟩ else ⟨0, 0, ⟨#[]⟩, [], []⟩).xs).length) ci30_29c)])) rfl zz43 e2 own_b2_2 agg87 sz87 rfl (fun h => by cases h) rfl e3 ⟨_, rfl, kw, ?_⟩)
       refine ⟨_, congrArg (fun q => Value.tuple #[_, Value.int .i64 q]) hoe.symm, ?_⟩
       rw [hov]
       exact sf_fr (rdRc_mk D_v21_21 (rdV_in (x := (if tkB x (failK x.k (tkE x (tkE x 0 ⟨#[108, 101, 110, 103, 116, 104]⟩ (numE 0 1099511627776)) ⟨#[104, 97, 115, 104, 101, 115]⟩ (obE 4)) (hsOE (f2O x))) ⟨#[99, 117, 115, 116, 111, 109]⟩ anyE then getV x ⟨#[99, 117, 115, 116, 111, 109]⟩ else ⟨0, 0, ⟨#[]⟩, [], []⟩)) ht_v30_29 D_cn30_29 D_ci30_29 : Rd W42 (SF w [b5_14, bo13_11, bm13_11, b2_2, b1_2]) (V.d ((if tkB x (failK x.k (tkE x (tkE x 0 ⟨#[108, 101, 110, 103, 116, 104]⟩ (numE 0 1099511627776)) ⟨#[104, 97, 115, 104, 101, 115]⟩ (obE 4)) (hsOE (f2O x))) ⟨#[99, 117, 115, 116, 111, 109]⟩ anyE then getV x ⟨#[99, 117, 115, 116, 111, 109]⟩ else ⟨0, 0, ⟨#[]⟩, [], []⟩))) _) : Rd W42 (SF w [b5_14, bo13_11, bm13_11, b2_2, b1_2]) (Rc.d (Rc.mk (if tkB x 0 ⟨#[108, 101, 110, 103, 116, 104]⟩ (numE 0 1099511627776) then numV 0 1099511627776 (getV x ⟨#[108, 101, 110, 103, 116, 104]⟩) else 0) (hsOV (f2O x)) ((if tkB x (failK x.k (tkE x (tkE x 0 ⟨#[108, 101, 110, 103, 116, 104]⟩ (numE 0 1099511627776)) ⟨#[104, 97, 115, 104, 101, 115]⟩ (obE 4)) (hsOE (f2O x))) ⟨#[99, 117, 115, 116, 111, 109]⟩ anyE then getV x ⟨#[99, 117, 115, 116, 111, 109]⟩ else ⟨0, 0, ⟨#[]⟩, [], []⟩)))) _)
     ·
      have hb : f4B x = false := hc
      refine wp_skip (hK26 _ _ ?_)
      refine wp_seq_k fun K44 hK44 => ?_
      refine wp_seq_k fun K45 hK45 => ?_
      refine rg mixed y28 zz28 ?_
      refine .i (sp_move (hbs rfl e4)) ?_
      refine .i (v := (.int .i64 (doneE x (tkA x (tkA x ([]) 0 ⟨#[108, 101, 110, 103, 116, 104]⟩ (numE 0 1099511627776)) (tkE x 0 ⟨#[108, 101, 110, 103, 116, 104]⟩ (numE 0 1099511627776)) ⟨#[104, 97, 115, 104, 101, 115]⟩ (obE 4)) (failK x.k (tkE x (tkE x 0 ⟨#[108, 101, 110, 103, 116, 104]⟩ (numE 0 1099511627776)) ⟨#[104, 97, 115, 104, 101, 115]⟩ (obE 4)) (hsOE (f2O x)))))) (sp_call1 (φ1 := Is (.pointer (some ⟨bo13_11, 0, none⟩))) ent32 (hlc rfl) (fun g u1 W hk hgk h1 => by have h1 : u1 = _ := h1; subst u1; exact Done_ok (x) (tkA x (tkA x ([]) 0 ⟨#[108, 101, 110, 103, 116, 104]⟩ (numE 0 1099511627776)) (tkE x 0 ⟨#[108, 101, 110, 103, 116, 104]⟩ (numE 0 1099511627776)) ⟨#[104, 97, 115, 104, 101, 115]⟩ (obE 4)) (failK x.k (tkE x (tkE x 0 ⟨#[108, 101, 110, 103, 116, 104]⟩ (numE 0 1099511627776)) ⟨#[104, 97, 115, 104, 101, 115]⟩ (obE 4)) (hsOE (f2O x))) W _ _ _ _ _ (D_cn13_11.ext hk) (own_bo13_11.ext hk) (own_bm13_11.ext hk))) ?_
      refine .i (sp_assign (hlc rfl)) ?_
      refine .done ⟨by kernel_rfl, fun a46 g W46 y46 zz46 hk hg hV hR hP => ?_⟩
      obtain ⟨e7, -, -, -⟩ := hV
      replace e2 := (hR 2 rfl).trans e2
      replace e5 := (hR 5 rfl).trans e5
      replace D_cn13_11 := D_cn13_11.ext hk
      replace D_ci13_11 := D_ci13_11.ext hk
      replace D_v21_21 := D_v21_21.ext hk
      replace e7 := e7.q
      replace own_b2_2 := own_b2_2.ext hk
      replace own_b1_2 := own_b1_2.ext hk
      replace own_bo13_11 := own_bo13_11.ext hk
      replace own_bm13_11 := own_bm13_11.ext hk
      replace own_b5_14 := own_b5_14.ext hk
      replace kw := kw.x hk
      clear hR hk hg hP
      refine tail_nil (hK45 _ _ ?_)
      refine wp_seq_k fun K47 hK47 => ?_
      refine rg mixed y46 zz46 ?_
      refine .i (sp_move (hbs rfl e7)) ?_
      refine .i (sp_neq (hlc rfl) Has.cst) ?_
      refine .done ⟨by kernel_rfl, fun a48 g W48 y48 zz48 hk hg hV hR hP => ?_⟩
      obtain ⟨e35, -, -⟩ := hV
      replace e2 := (hR 2 rfl).trans e2
      replace e5 := (hR 5 rfl).trans e5
      replace e7 := (hR 7 rfl).trans e7
      replace D_v21_21 := D_v21_21.ext hk
      replace e35 := e35.q
      replace own_b2_2 := own_b2_2.ext hk
      replace own_b1_2 := own_b1_2.ext hk
      replace own_bo13_11 := own_bo13_11.ext hk
      replace own_bm13_11 := own_bm13_11.ext hk
      replace own_b5_14 := own_b5_14.ext hk
      replace kw := kw.x hk
      clear hR hk hg hP
      refine tail_nil (hK47 _ _ ?_)
      refine wp_cond_split e35 (fun hc => ?_) (fun hc => ?_)
      ·
       have hd := bne_iff_ne.1 hc
       have hdE : ofRE x = doneE x (f2A x) (f3E x) := by rw [ofRE, if_neg hm, if_neg (by simp [hof]), f4A, f4E, if_neg (by simp [hb]), if_neg (by simp [hb])]
       have hoe := hdE
       have hov : ofRV x = ⟨0, [], ⟨0, 0, ⟨#[]⟩, [], []⟩⟩ := by rw [ofRV, if_neg (by rw [hoe]; exact hd)]
       refine wp_seq_k fun K49 hK49 => ?_
       refine rg mixed y48 zz48 ?_
       refine .i (v := (.agg #[(.int .i64 (0)), (.slice none 0 0), (.int .u8 (0)), (.int .i64 (0)), (.string (⟨#[]⟩)), (.slice none 0 0), (.slice none 0 0)])) (sp_build (vs := []) Try.underlying87 z87 (pl87 Try.underlying87) trivial rfl) ?_
       refine .i (sp_move (hbs rfl e7)) ?_
       refine .done ⟨by kernel_rfl, fun a50 g W50 y50 zz50 hk hg hV hR hP => ?_⟩
       obtain ⟨e37, e36, -⟩ := hV
       replace e2 := (hR 2 rfl).trans e2
       replace D_v21_21 := D_v21_21.ext hk
       replace e36 := e36.q
       replace e37 := e37.q
       replace own_b2_2 := own_b2_2.ext hk
       replace own_b1_2 := own_b1_2.ext hk
       replace own_bo13_11 := own_bo13_11.ext hk
       replace own_bm13_11 := own_bm13_11.ext hk
       replace own_b5_14 := own_b5_14.ext hk
       replace kw := kw.x hk
       clear hR hk hg hP
       refine tail_store (b := b2_2) (o := 0) (v := (.agg #[(.int .i64 (0)), (.slice none 0 0), (.int .u8 (0)), (.int .i64 (0)), (.string (⟨#[]⟩)), (.slice none 0 0), (.slice none 0 0)])) e2 e36 sz87 rfl own_b2_2 (lbr rfl) (all_cons rfl (all_cons rfl (all_cons rfl (all_cons rfl (all_cons rfl (all_cons rfl (all_cons rfl all_nil))))))) (fun W51 hs own_b2_2 => ?_)
       have own_b2_2 : Own W51 b2_2 [(.int .i64 (0)), (.slice none 0 0), (.int .u8 (0)), (.int .i64 (0)), (.string (⟨#[]⟩)), (.slice none 0 0), (.slice none 0 0)] 87 := own_b2_2
       replace own_b1_2 := own_store own_b1_2 hs ne_b2_2_b1_2.symm
       replace own_bo13_11 := own_store own_bo13_11 hs ne_b2_2_bo13_11.symm
       replace own_bm13_11 := ownM_store own_bm13_11 hs ne_b2_2_bm13_11.symm
       replace own_b5_14 := own_store own_b5_14 hs ne_b2_2_b5_14.symm
       replace D_v21_21 := sf_store D_v21_21 hs (by simp)
       replace kw := keeps_store kw hs lo_b2_2
       clear hs
       refine tail_assign (v := (.int .i64 (doneE x (tkA x (tkA x ([]) 0 ⟨#[108, 101, 110, 103, 116, 104]⟩ (numE 0 1099511627776)) (tkE x 0 ⟨#[108, 101, 110, 103, 116, 104]⟩ (numE 0 1099511627776)) ⟨#[104, 97, 115, 104, 101, 115]⟩ (obE 4)) (failK x.k (tkE x (tkE x 0 ⟨#[108, 101, 110, 103, 116, 104]⟩ (numE 0 1099511627776)) ⟨#[104, 97, 115, 104, 101, 115]⟩ (obE 4)) (hsOE (f2O x)))))) e37 (by rw [y50]; exact Nat.le_of_ble_eq_true rfl) (fun a52 y52 zz52 e3 hr => ?_)
       replace y52 := y52.trans y50; replace zz52 := zz52.trans zz50
       replace e2 := (hr 2 (by decide)).trans e2
       replace e36 := (hr 36 (by decide)).trans e36
       replace e37 := (hr 37 (by decide)).trans e37
       clear hr
       refine tail_nil (hK49 _ _ ?_)
       refine wp_ret ?_
       refine (show bodyPost Try.prog Try.f72 _ .ret _ _ from retCT (v := (.agg #[(.int .i64 (0)), (.slice none 0 0), (.int .u8 (0)), (.int .i64 (0)), (.string (⟨#[]⟩)), (.slice none 0 0), (.slice none 0 0)])) rfl zz52 e2 own_b2_2 agg87 sz87 rfl (fun h => by cases h) rfl e3 ⟨_, rfl, kw, ?_⟩)
       refine ⟨_, congrArg (fun q => Value.tuple #[_, Value.int .i64 q]) hoe.symm, ?_⟩
       rw [hov]
       exact sf_fr (rdRc_mk (rd_nil _) (rdV_mk (lbr rfl) (rd_nil _) (rd_nil _) : Rd W51 (SF w [b5_14, bo13_11, bm13_11, b2_2, b1_2]) (V.d (V.mk (0) (0) (⟨#[]⟩) ([]) ([]))) _) : Rd W51 (SF w [b5_14, bo13_11, bm13_11, b2_2, b1_2]) (Rc.d (Rc.mk (0) ([]) (V.mk (0) (0) (⟨#[]⟩) ([]) ([])))) _)
      ·
       have hd := bne_eq_false_iff_eq.1 hc
       have hdE : ofRE x = doneE x (f2A x) (f3E x) := by rw [ofRE, if_neg hm, if_neg (by simp [hof]), f4A, f4E, if_neg (by simp [hb]), if_neg (by simp [hb])]
       have hoe : ofRE x = 0 := hdE.trans hd
       have hov : ofRV x = ⟨f1N x, hsOV (f2O x), ⟨0, 0, ⟨#[]⟩, [], []⟩⟩ := by rw [ofRV, if_pos hoe, f4V, if_neg (by simp [hb])]
       refine wp_skip (hK44 _ _ ?_)
       refine wp_seq_k fun K53 hK53 => ?_
       refine rg mixed y48 zz48 ?_
       refine .i (v := (.agg #[(.int .i64 (if tkB x 0 ⟨#[108, 101, 110, 103, 116, 104]⟩ (numE 0 1099511627776) then numV 0 1099511627776 (getV x ⟨#[108, 101, 110, 103, 116, 104]⟩) else 0)), (.slice v21_21a ((hsOV (f2O x)).length) v21_21c), (.int .u8 (0)), (.int .i64 (0)), (.string (⟨#[]⟩)), (.slice none 0 0), (.slice none 0 0)])) (loA (hbs rfl e5) own_b5_14 trivial agg87 sz87 rfl rfl) ?_
       refine .done ⟨by kernel_rfl, fun a54 g W54 y54 zz54 hk hg hV hR hP => ?_⟩
       obtain ⟨e38, -⟩ := hV
       replace e2 := (hR 2 rfl).trans e2
       replace D_v21_21 := D_v21_21.ext hk
       replace e38 := e38.q
       replace own_b2_2 := own_b2_2.ext hk
       replace own_b1_2 := own_b1_2.ext hk
       replace own_bo13_11 := own_bo13_11.ext hk
       replace own_bm13_11 := own_bm13_11.ext hk
       replace own_b5_14 := own_b5_14.ext hk
       replace kw := kw.x hk
       clear hR hk hg hP
       refine tail_store (b := b2_2) (o := 0) (v := (.agg #[(.int .i64 (if tkB x 0 ⟨#[108, 101, 110, 103, 116, 104]⟩ (numE 0 1099511627776) then numV 0 1099511627776 (getV x ⟨#[108, 101, 110, 103, 116, 104]⟩) else 0)), (.slice v21_21a ((hsOV (f2O x)).length) v21_21c), (.int .u8 (0)), (.int .i64 (0)), (.string (⟨#[]⟩)), (.slice none 0 0), (.slice none 0 0)])) e2 e38 sz87 rfl own_b2_2 (lbr rfl) (all_cons rfl (all_cons rfl (all_cons rfl (all_cons rfl (all_cons rfl (all_cons rfl (all_cons rfl all_nil))))))) (fun W55 hs own_b2_2 => ?_)
       have own_b2_2 : Own W55 b2_2 [(.int .i64 (if tkB x 0 ⟨#[108, 101, 110, 103, 116, 104]⟩ (numE 0 1099511627776) then numV 0 1099511627776 (getV x ⟨#[108, 101, 110, 103, 116, 104]⟩) else 0)), (.slice v21_21a ((hsOV (f2O x)).length) v21_21c), (.int .u8 (0)), (.int .i64 (0)), (.string (⟨#[]⟩)), (.slice none 0 0), (.slice none 0 0)] 87 := own_b2_2
       replace own_b1_2 := own_store own_b1_2 hs ne_b2_2_b1_2.symm
       replace own_bo13_11 := own_store own_bo13_11 hs ne_b2_2_bo13_11.symm
       replace own_bm13_11 := ownM_store own_bm13_11 hs ne_b2_2_bm13_11.symm
       replace own_b5_14 := own_store own_b5_14 hs ne_b2_2_b5_14.symm
       replace D_v21_21 := sf_store D_v21_21 hs (by simp)
       replace kw := keeps_store kw hs lo_b2_2
       clear hs
       refine tail_assign (v := (.int .i64 (0))) rfl (by rw [y54]; exact Nat.le_of_ble_eq_true rfl) (fun a56 y56 zz56 e3 hr => ?_)
       replace y56 := y56.trans y54; replace zz56 := zz56.trans zz54
       replace e2 := (hr 2 (by decide)).trans e2
       replace e38 := (hr 38 (by decide)).trans e38
       clear hr
       refine tail_nil (hK53 _ _ ?_)
       refine wp_ret ?_
       refine (show bodyPost Try.prog Try.f72 _ .ret _ _ from retCT (v := (.agg #[(.int .i64 (if tkB x 0 ⟨#[108, 101, 110, 103, 116, 104]⟩ (numE 0 1099511627776) then numV 0 1099511627776 (getV x ⟨#[108, 101, 110, 103, 116, 104]⟩) else 0)), (.slice v21_21a ((hsOV (f2O x)).length) v21_21c), (.int .u8 (0)), (.int .i64 (0)), (.string (⟨#[]⟩)), (.slice none 0 0), (.slice none 0 0)])) rfl zz56 e2 own_b2_2 agg87 sz87 rfl (fun h => by cases h) rfl e3 ⟨_, rfl, kw, ?_⟩)
       refine ⟨_, congrArg (fun q => Value.tuple #[_, Value.int .i64 q]) hoe.symm, ?_⟩
       rw [hov]
       exact sf_fr (rdRc_mk D_v21_21 (rdV_mk (lbr rfl) (rd_nil _) (rd_nil _) : Rd W55 (SF w [b5_14, bo13_11, bm13_11, b2_2, b1_2]) (V.d (V.mk (0) (0) (⟨#[]⟩) ([]) ([]))) _) : Rd W55 (SF w [b5_14, bo13_11, bm13_11, b2_2, b1_2]) (Rc.d (Rc.mk (if tkB x 0 ⟨#[108, 101, 110, 103, 116, 104]⟩ (numE 0 1099511627776) then numV 0 1099511627776 (getV x ⟨#[108, 101, 110, 103, 116, 104]⟩) else 0) (hsOV (f2O x)) (V.mk (0) (0) (⟨#[]⟩) ([]) ([])))) _)
  · have hE : errK 0 (ofE x) ≠ 0 := by rw [ofE_dead hof]; exact hof
    obtain ⟨cn0a, cn0c, ci0a, ci0c, ev, ht0, D_cn0, D_ci0⟩ := rdV_out (rd_arg hv)
    subst ev
    refine enter Try.func72 rfl Try.ntmps72 (lbr rfl) fun a0 y0 zz0 harg => ?_
    have e0 : sl a0 0 = (.agg #[(.int .u8 (x.k)), (.int .i64 (x.n)), (.string (x.t)), (.slice cn0a (x.ns.length) cn0c), (.slice ci0a (x.xs.length) ci0c)]) := harg 0 (lbr rfl)
    have kw := Keeps.refl All w
    clear harg
    refine wp_seq_k fun K1 hK1 => ?_
    refine rg mixed y0 zz0 ?_
    refine .boxOp (v := (.agg #[(.int .u8 (x.k)), (.int .i64 (x.n)), (.string (x.t)), (.slice cn0a (x.ns.length) cn0c), (.slice ci0a (x.xs.length) ci0c)])) (hbs rfl e0) ?_
    refine .alloc z87 ?_
    refine .i (sp_assign Has.cst) ?_
    refine .done ⟨by kernel_rfl, fun a2 g W2 y2 zz2 hk hg hV hR hP => ?_⟩
    obtain ⟨-, ⟨b2_2, e2, hb2, own_b2_2⟩, ⟨b1_2, e1, hb1, own_b1_2⟩, -⟩ := hV
    have lo_b2_2 : w.heap.size ≤ b2_2 := Nat.le_trans kw.size (hg.lo _ _ hb2)
    have own_b2_2 : Own W2 b2_2 [(.int .i64 (0)), (.slice none 0 0), (.int .u8 (0)), (.int .i64 (0)), (.string (⟨#[]⟩)), (.slice none 0 0), (.slice none 0 0)] 87 := own_b2_2
    have lo_b1_2 : w.heap.size ≤ b1_2 := Nat.le_trans kw.size (hg.lo _ _ hb1)
    have own_b1_2 : Own W2 b1_2 [(.int .u8 (x.k)), (.int .i64 (x.n)), (.string (x.t)), (.slice cn0a (x.ns.length) cn0c), (.slice ci0a (x.xs.length) ci0c)] 33 := own_b1_2
    have ne_b2_2_b1_2 : b2_2 ≠ b1_2 := fun h => by have := hg.inj _ _ _ hb2 (h ▸ hb1); cases this
    replace D_cn0 := sa_more D_cn0 hk [b2_2, b1_2] (in_cons (hg.lo _ _ hb2) (in_cons (hg.lo _ _ hb1) in_nil))
    replace D_ci0 := sa_more D_ci0 hk [b2_2, b1_2] (in_cons (hg.lo _ _ hb2) (in_cons (hg.lo _ _ hb1) in_nil))
    replace kw := kw.x hk
    clear hR hk hg hP hb2 hb1
    refine tail_nil (hK1 _ _ ?_)
    refine wp_seq_k fun K3 hK3 => ?_
    refine wp_seq_k fun K4 hK4 => ?_
    refine rg mixed y2 zz2 ?_
    refine .i (v := (.agg #[(.int .u8 (x.k)), (.int .i64 (x.n)), (.string (x.t)), (.slice cn0a (x.ns.length) cn0c), (.slice ci0a (x.xs.length) ci0c)])) (loA (hbs rfl e1) own_b1_2 trivial agg33 sz33 rfl rfl) ?_
    refine .i (v := (.bool (mayB (x)))) (sp_call1 (φ1 := IsD (SA w S [b2_2, b1_2]) (V.d (x))) ent76 ((hlc rfl).dat (rdV_in (x := x) ht0 D_cn0 D_ci0 : Rd W2 (SA w S [b2_2, b1_2]) (V.d (x)) _) sub_all) (fun g u1 W hk hgk h1 => May_ok (x) (Nat.le_trans (cnt_wt x) hx) W _ _ h1)) ?_
    refine .i (sp_not (hlc rfl)) ?_
    refine .done ⟨by kernel_rfl, fun a5 g W5 y5 zz5 hk hg hV hR hP => ?_⟩
    obtain ⟨e10, -, -, -⟩ := hV
    replace e2 := (hR 2 rfl).trans e2
    replace e1 := (hR 1 rfl).trans e1
    replace D_cn0 := D_cn0.ext hk
    replace D_ci0 := D_ci0.ext hk
    have e10 : sl a5 10 = (.bool (!(mayB (x)))) := e10
    replace own_b2_2 := own_b2_2.ext hk
    replace own_b1_2 := own_b1_2.ext hk
    replace kw := kw.x hk
    clear hR hk hg hP
    refine tail_nil (hK4 _ _ ?_)
    refine wp_cond_split e10 (fun hc => ?_) (fun hc => ?_)
    ·
     have hm : mayB x = false := by simpa using hc
     have hoe : ofRE x = 3 := by rw [ofRE, if_pos hm]
     have hov : ofRV x = ⟨0, [], ⟨0, 0, ⟨#[]⟩, [], []⟩⟩ := by rw [ofRV, hoe]; rfl
     refine wp_seq_k fun K6 hK6 => ?_
     refine rg mixed y5 zz5 ?_
     refine .i (v := (.agg #[(.int .i64 (0)), (.slice none 0 0), (.int .u8 (0)), (.int .i64 (0)), (.string (⟨#[]⟩)), (.slice none 0 0), (.slice none 0 0)])) (sp_build (vs := []) Try.underlying87 z87 (pl87 Try.underlying87) trivial rfl) ?_
     refine .done ⟨by kernel_rfl, fun a7 g W7 y7 zz7 hk hg hV hR hP => ?_⟩
     obtain ⟨e11, -⟩ := hV
     replace e2 := (hR 2 rfl).trans e2
     replace D_cn0 := D_cn0.ext hk
     replace D_ci0 := D_ci0.ext hk
     replace e11 := e11.q
     replace own_b2_2 := own_b2_2.ext hk
     replace own_b1_2 := own_b1_2.ext hk
     replace kw := kw.x hk
     clear hR hk hg hP
     refine tail_store (b := b2_2) (o := 0) (v := (.agg #[(.int .i64 (0)), (.slice none 0 0), (.int .u8 (0)), (.int .i64 (0)), (.string (⟨#[]⟩)), (.slice none 0 0), (.slice none 0 0)])) e2 e11 sz87 rfl own_b2_2 (lbr rfl) (all_cons rfl (all_cons rfl (all_cons rfl (all_cons rfl (all_cons rfl (all_cons rfl (all_cons rfl all_nil))))))) (fun W8 hs own_b2_2 => ?_)
     have own_b2_2 : Own W8 b2_2 [(.int .i64 (0)), (.slice none 0 0), (.int .u8 (0)), (.int .i64 (0)), (.string (⟨#[]⟩)), (.slice none 0 0), (.slice none 0 0)] 87 := own_b2_2
     replace own_b1_2 := own_store own_b1_2 hs ne_b2_2_b1_2.symm
     replace D_cn0 := sa_store D_cn0 hs (by simp)
     replace D_ci0 := sa_store D_ci0 hs (by simp)
     replace kw := keeps_store kw hs lo_b2_2
     clear hs
     refine tail_assign (v := (.int .i64 (3))) rfl (by rw [y7]; exact Nat.le_of_ble_eq_true rfl) (fun a9 y9 zz9 e3 hr => ?_)
     replace y9 := y9.trans y7; replace zz9 := zz9.trans zz7
     replace e2 := (hr 2 (by decide)).trans e2
     replace e11 := (hr 11 (by decide)).trans e11
     clear hr
     refine tail_nil (hK6 _ _ ?_)
     refine wp_ret ?_
     refine (show bodyPost Try.prog Try.f72 _ .ret _ _ from retCT (v := (.agg #[(.int .i64 (0)), (.slice none 0 0), (.int .u8 (0)), (.int .i64 (0)), (.string (⟨#[]⟩)), (.slice none 0 0), (.slice none 0 0)])) rfl zz9 e2 own_b2_2 agg87 sz87 rfl (fun h => by cases h) rfl e3 ⟨_, rfl, kw, ?_⟩)
     refine ⟨_, congrArg (fun q => Value.tuple #[_, Value.int .i64 q]) hoe.symm, ?_⟩
     rw [hov]
     exact sf_fr (rdRc_mk (rd_nil _) (rdV_mk (lbr rfl) (rd_nil _) (rd_nil _) : Rd W8 (SF w [b2_2, b1_2]) (V.d (V.mk (0) (0) (⟨#[]⟩) ([]) ([]))) _) : Rd W8 (SF w [b2_2, b1_2]) (Rc.d (Rc.mk (0) ([]) (V.mk (0) (0) (⟨#[]⟩) ([]) ([])))) _)
    ·
     have hm : ¬ mayB x = false := by simpa using hc
     refine wp_skip (hK3 _ _ ?_)
     refine wp_seq_k fun K10 hK10 => ?_
     refine rg mixed y5 zz5 ?_
     refine .i (v := (.agg #[(.int .u8 (x.k)), (.int .i64 (x.n)), (.string (x.t)), (.slice cn0a (x.ns.length) cn0c), (.slice ci0a (x.xs.length) ci0c)])) (loA (hbs rfl e1) own_b1_2 trivial agg33 sz33 rfl rfl) ?_
     refine .op (φ := IsPkD W5 74 (ofE x)) st_pkd (sp_call1 (φ1 := IsD (SA w S [b2_2, b1_2]) (V.d (x))) ent21 ((hlc rfl).dat (rdV_in (x := x) ht0 D_cn0 D_ci0 : Rd W5 (SA w S [b2_2, b1_2]) (V.d (x)) _) sub_all) (fun g u1 W hk hgk h1 => (OfD_ok (x) hof W _ _ h1).mono (fun _ _ ⟨v, h1, h2, h3⟩ => ⟨v, h1, h2, pkd_up hk h3⟩))) ?_
     refine .done ⟨by kernel_rfl, fun a11 g W11 y11 zz11 hk hg hV hR hP => ?_⟩
     obtain ⟨e13, -, -⟩ := hV
     replace e2 := (hR 2 rfl).trans e2
     obtain ⟨bo13_11, e13, lr_bo13_11, own_bo13_11⟩ := e13
     have e13 : sl a11 13 = (.pointer (some ⟨bo13_11, 0, none⟩)) := e13
     have lo_bo13_11 : w.heap.size ≤ bo13_11 := Nat.le_trans kw.size lr_bo13_11
     have ne_b2_2_bo13_11 : b2_2 ≠ bo13_11 := Nat.ne_of_lt (Nat.lt_of_lt_of_le own_b2_2.lt lr_bo13_11)
     have ne_b1_2_bo13_11 : b1_2 ≠ bo13_11 := Nat.ne_of_lt (Nat.lt_of_lt_of_le own_b1_2.lt lr_bo13_11)
     replace D_cn0 : Rd W11 (SA w S [bo13_11, b2_2, b1_2]) (strsD (x.ns)) (.slice cn0a (x.ns.length) cn0c) := sa_more D_cn0 hk [bo13_11] (in_cons lr_bo13_11 in_nil)
     replace D_ci0 : Rd W11 (SA w S [bo13_11, b2_2, b1_2]) (valsD (x.xs)) (.slice ci0a (x.xs.length) ci0c) := sa_more D_ci0 hk [bo13_11] (in_cons lr_bo13_11 in_nil)
     have own_bo13_11 : Own W11 bo13_11 [(.int .u8 (0)), (.int .i64 (0)), (.string (⟨#[]⟩)), (.slice none 0 0), (.slice none 0 0), (.map none), (.int .i64 (ofE x))] 74 := own_bo13_11
     replace own_b2_2 := own_b2_2.ext hk
     replace own_b1_2 := own_b1_2.ext hk
     replace kw := kw.x hk
     clear hR hk hg hP lr_bo13_11
     refine tail_assign (v := (.pointer (some ⟨bo13_11, 0, none⟩))) e13 (by rw [y11]; exact Nat.le_of_ble_eq_true rfl) (fun a12 y12 zz12 e4 hr => ?_)
     replace y12 := y12.trans y11; replace zz12 := zz12.trans zz11
     replace e2 := (hr 2 (by decide)).trans e2
     replace e13 := (hr 13 (by decide)).trans e13
     clear hr
     refine tail_nil (hK10 _ _ ?_)
     refine wp_seq_k fun K13 hK13 => ?_
     refine rg mixed y12 zz12 ?_
     refine .alloc z87 ?_
     refine .done ⟨by kernel_rfl, fun a14 g W14 y14 zz14 hk hg hV hR hP => ?_⟩
     obtain ⟨⟨b5_14, e5, hb5, own_b5_14⟩, -⟩ := hV
     have lo_b5_14 : w.heap.size ≤ b5_14 := Nat.le_trans kw.size (hg.lo _ _ hb5)
     have ne_b2_2_b5_14 : b2_2 ≠ b5_14 := Nat.ne_of_lt (Nat.lt_of_lt_of_le own_b2_2.lt (hg.lo _ _ hb5))
     have ne_b1_2_b5_14 : b1_2 ≠ b5_14 := Nat.ne_of_lt (Nat.lt_of_lt_of_le own_b1_2.lt (hg.lo _ _ hb5))
     have ne_bo13_11_b5_14 : bo13_11 ≠ b5_14 := Nat.ne_of_lt (Nat.lt_of_lt_of_le own_bo13_11.lt (hg.lo _ _ hb5))
     have own_b5_14 : Own W14 b5_14 [(.int .i64 (0)), (.slice none 0 0), (.int .u8 (0)), (.int .i64 (0)), (.string (⟨#[]⟩)), (.slice none 0 0), (.slice none 0 0)] 87 := own_b5_14
     replace e2 := (hR 2 rfl).trans e2
     replace e4 := (hR 4 rfl).trans e4
     replace own_b2_2 := own_b2_2.ext hk
     replace own_b1_2 := own_b1_2.ext hk
     replace own_bo13_11 := own_bo13_11.ext hk
     replace kw := kw.x hk
     clear hR hk hg hP hb5
     refine tail_nil (hK13 _ _ ?_)
     refine wp_seq_k fun K15 hK15 => ?_
     refine rg mixed y14 zz14 ?_
     refine .i (sp_assign Has.cst) ?_
     refine .done ⟨by kernel_rfl, fun a16 g W16 y16 zz16 hk hg hV hR hP => ?_⟩
     obtain ⟨-, -⟩ := hV
     replace e2 := (hR 2 rfl).trans e2
     replace e4 := (hR 4 rfl).trans e4
     replace e5 := (hR 5 rfl).trans e5
     replace own_b2_2 := own_b2_2.ext hk
     replace own_b1_2 := own_b1_2.ext hk
     replace own_bo13_11 := own_bo13_11.ext hk
     replace own_b5_14 := own_b5_14.ext hk
     replace kw := kw.x hk
     clear hR hk hg hP
     refine tail_nil (hK15 _ _ ?_)
     refine wp_seq_k fun K17 hK17 => ?_
     refine rg mixed y16 zz16 ?_
     refine .i (sp_move (hbs rfl e4)) ?_
     refine .i (v := (.int .i64 (0))) (sp_call4 (φ1 := Is (.pointer (some ⟨bo13_11, 0, none⟩))) (φ2 := Is (.string (⟨#[108, 101, 110, 103, 116, 104]⟩))) (φ3 := Is (.int .i64 (0))) (φ4 := Is (.int .i64 (1099511627776))) ent44 (hlc rfl) Has.cst Has.cst Has.cst (fun g u1 u2 u3 u4 W hk hgk h1 h2 h3 h4 => by have h1 : u1 = _ := h1; subst u1; have h2 : u2 = _ := h2; subst u2; have h3 : u3 = _ := h3; subst u3; have h4 : u4 = _ := h4; subst u4; exact NumD_ok _ _ _ _ _ _ _ hE _ _ _ W _ (own_bo13_11.ext hk))) ?_
     refine .i (fo 0 (hbs rfl e5) Try.underlying87 rfl sz2 rfl) ?_
     refine .done ⟨by kernel_rfl, fun a18 g W18 y18 zz18 hk hg hV hR hP => ?_⟩
     obtain ⟨e16, e15, -, -⟩ := hV
     replace e2 := (hR 2 rfl).trans e2
     replace e4 := (hR 4 rfl).trans e4
     replace e5 := (hR 5 rfl).trans e5
     have e15 : sl a18 15 = (.int .i64 (0)) := e15
     have e16 : sl a18 16 = (.pointer (some ⟨b5_14, 0, none⟩)) := e16
     replace own_b2_2 := own_b2_2.ext hk
     replace own_b1_2 := own_b1_2.ext hk
     replace own_bo13_11 := own_bo13_11.ext hk
     replace own_b5_14 := own_b5_14.ext hk
     replace kw := kw.x hk
     clear hR hk hg hP
     refine tail_store (b := b5_14) (o := 0) (v := (.int .i64 (0))) e16 e15 sz2 rfl own_b5_14 (lbr rfl) (all_cons rfl all_nil) (fun W19 hs own_b5_14 => ?_)
     have own_b5_14 : Own W19 b5_14 [(.int .i64 (0)), (.slice none 0 0), (.int .u8 (0)), (.int .i64 (0)), (.string (⟨#[]⟩)), (.slice none 0 0), (.slice none 0 0)] 87 := own_b5_14
     replace own_b2_2 := own_store own_b2_2 hs ne_b2_2_b5_14
     replace own_b1_2 := own_store own_b1_2 hs ne_b1_2_b5_14
     replace own_bo13_11 := own_store own_bo13_11 hs ne_bo13_11_b5_14
     replace kw := keeps_store kw hs lo_b5_14
     clear hs
     refine tail_nil (hK17 _ _ ?_)
     refine wp_seq_k fun K20 hK20 => ?_
     refine rg mixed y18 zz18 ?_
     refine .i (sp_move (hbs rfl e4)) ?_
     refine .i (v := (.agg #[(.int .u8 (0)), (.int .i64 (0)), (.string (⟨#[]⟩)), (.slice none 0 0), (.slice none 0 0)])) (sp_call3 (φ1 := Is (.pointer (some ⟨bo13_11, 0, none⟩))) (φ2 := Is (.string (⟨#[104, 97, 115, 104, 101, 115]⟩))) (φ3 := Is (.int .i64 (4))) ent47 (hlc rfl) Has.cst Has.cst (fun g u1 u2 u3 W hk hgk h1 h2 h3 => by have h1 : u1 = _ := h1; subst u1; have h2 : u2 = _ := h2; subst u2; have h3 : u3 = _ := h3; subst u3; exact ObjectD_ok _ _ _ _ _ _ _ hE _ _ W _ (own_bo13_11.ext hk))) ?_
     refine .op (φ := IsT (IsD (Fr W19) (hssD (hsOV (V.mk (0) (0) (⟨#[]⟩) ([]) ([]))))) (Is (.int .i64 (hsOE (V.mk (0) (0) (⟨#[]⟩) ([]) ([])))))) (st_t (st_d sub_all) (st_is _)) (sp_call1 (φ1 := IsD (SF w [b5_14, bo13_11, b2_2, b1_2]) (V.d (V.mk (0) (0) (⟨#[]⟩) ([]) ([])))) ent129 ((hlc rfl).dat (rdV_mk (by decide) (rd_nil _) (rd_nil _) : Rd W19 (SF w [b5_14, bo13_11, b2_2, b1_2]) (V.d (V.mk (0) (0) (⟨#[]⟩) ([]) ([]))) _) sub_all) (fun g u1 W hk hgk h1 => (HashesOf_ok (V.mk (0) (0) (⟨#[]⟩) ([]) ([])) (Nat.le_of_ble_eq_true (by kernel_rfl)) W _ _ h1).mono (fun _ _ ⟨v, h1, h2, r1, h3, h4⟩ => ⟨v, h1, h2, r1, _, h3, fresh_d hk hgk h4, rfl⟩))) ?_
     refine .op (φ := IsT (IsD (Fr W19) (hssD (hsOV (V.mk (0) (0) (⟨#[]⟩) ([]) ([]))))) (Is (.int .i64 (hsOE (V.mk (0) (0) (⟨#[]⟩) ([]) ([])))))) (st_t (st_d sub_all) (st_is _)) (sp_move (hlc rfl)) ?_
     refine .da (X := Fr W19) (e := hssD (hsOV (V.mk (0) (0) (⟨#[]⟩) ([]) ([])))) (sp_ext2 (hlc rfl) rfl) ?_
     refine .i (v := (.int .i64 (hsOE (V.mk (0) (0) (⟨#[]⟩) ([]) ([]))))) (sp_ext2' (hlc rfl) rfl) ?_
     refine .i (fo 1 (hbs rfl e5) Try.underlying87 rfl sz85 rfl) ?_
     refine .done ⟨by kernel_rfl, fun a21 g W21 y21 zz21 hk hg hV hR hP => ?_⟩
     obtain ⟨e23, e22, e21, -, -, -, -, -⟩ := hV
     replace e2 := (hR 2 rfl).trans e2
     replace e4 := (hR 4 rfl).trans e4
     replace e5 := (hR 5 rfl).trans e5
     obtain ⟨v21_21, ev⟩ : ∃ v, sl a21 21 = v := ⟨_, rfl⟩
     rw [ev] at e21
     have D_v21_21 : Rd W21 (SF w [b5_14, bo13_11, b2_2, b1_2]) (hssD (hsOV (V.mk (0) (0) (⟨#[]⟩) ([]) ([])))) v21_21 := fr_end (M := [b5_14, bo13_11, b2_2, b1_2]) e21 kw [] in_nil (in_cons own_b5_14.lt (in_cons own_bo13_11.lt (in_cons own_b2_2.lt (in_cons own_b1_2.lt in_nil))))
     replace e21 := ev; clear ev
     obtain ⟨v21_21a, v21_21c, ev, D2⟩ := rdHss_out D_v21_21
     subst ev; replace D_v21_21 := D2; clear D2
     replace e22 := e22.q
     have e23 : sl a21 23 = (.pointer (some ⟨b5_14, 1, none⟩)) := e23
     replace own_b2_2 := own_b2_2.ext hk
     replace own_b1_2 := own_b1_2.ext hk
     replace own_bo13_11 := own_bo13_11.ext hk
     replace own_b5_14 := own_b5_14.ext hk
     replace kw := kw.x hk
     clear hR hk hg hP
     refine tail_store (b := b5_14) (o := 1) (v := (.slice v21_21a ((hsOV (V.mk (0) (0) (⟨#[]⟩) ([]) ([]))).length) v21_21c)) e23 e21 sz85 rfl own_b5_14 (lbr rfl) (all_cons rfl all_nil) (fun W22 hs own_b5_14 => ?_)
     have own_b5_14 : Own W22 b5_14 [(.int .i64 (0)), (.slice v21_21a ((hsOV (V.mk (0) (0) (⟨#[]⟩) ([]) ([]))).length) v21_21c), (.int .u8 (0)), (.int .i64 (0)), (.string (⟨#[]⟩)), (.slice none 0 0), (.slice none 0 0)] 87 := own_b5_14
     replace own_b2_2 := own_store own_b2_2 hs ne_b2_2_b5_14
     replace own_b1_2 := own_store own_b1_2 hs ne_b1_2_b5_14
     replace own_bo13_11 := own_store own_bo13_11 hs ne_bo13_11_b5_14
     replace D_v21_21 := sf_store D_v21_21 hs (by simp)
     replace kw := keeps_store kw hs lo_b5_14
     clear hs
     refine tail_assign (v := (.int .i64 (hsOE (V.mk (0) (0) (⟨#[]⟩) ([]) ([]))))) e22 (by rw [y21]; exact Nat.le_of_ble_eq_true rfl) (fun a23 y23 zz23 e6 hr => ?_)
     replace y23 := y23.trans y21; replace zz23 := zz23.trans zz21
     replace e2 := (hr 2 (by decide)).trans e2
     replace e4 := (hr 4 (by decide)).trans e4
     replace e5 := (hr 5 (by decide)).trans e5
     replace e21 := (hr 21 (by decide)).trans e21
     replace e22 := (hr 22 (by decide)).trans e22
     replace e23 := (hr 23 (by decide)).trans e23
     clear hr
     refine tail_nil (hK20 _ _ ?_)
     refine wp_seq_k fun K24 hK24 => ?_
     refine wp_reg (fun k => k ∉ [bo13_11]) (Ψ := fun W => Own W bo13_11 [(.int .u8 (0)), (.int .i64 (0)), (.string (⟨#[]⟩)), (.slice none 0 0), (.slice none 0 0), (.map none), (.int .i64 (ofE x))] 74) mixed y23 zz23 stE_own own_bo13_11 ?_
     refine .i (sp_move (hbs rfl e4)) ?_
     refine .i (sp_move (hbs rfl e6)) ?_
     refine .callL2 (φ1 := Is (.pointer (some ⟨bo13_11, 0, none⟩))) (φ2 := Is (.int .i64 (hsOE (V.mk (0) (0) (⟨#[]⟩) ([]) ([]))))) (φ := Is (.tuple #[])) (Ψ' := fun W => Own W bo13_11 [(.int .u8 (0)), (.int .i64 (0)), (.string (⟨#[]⟩)), (.slice none 0 0), (.slice none 0 0), (.map none), (.int .i64 (ofE x))] 74) ent22 (hlc rfl) (hlc rfl) (st_is _) stE_own (fun g u1 u2 W hk hg h1 h2 hP => by have h1 : u1 = _ := h1; subst u1; have h2 : u2 = _ := h2; subst u2; exact (Fail_ok _ _ _ _ _ _ _ (hsOE (V.mk (0) (0) (⟨#[]⟩) ([]) ([]))) W _ hP).mono (fun _ _ ⟨v, h1, h2, h3, h4⟩ => ⟨v, h1, h2, h3, by rw [failK_dead hE] at h4; exact h4⟩)) ?_
     refine .done ⟨by kernel_rfl, fun a25 g W25 y25 zz25 hk hg hV hR hP => ?_⟩
     obtain ⟨-, -, -, -⟩ := hV
     replace e2 := (hR 2 rfl).trans e2
     replace e4 := (hR 4 rfl).trans e4
     replace e5 := (hR 5 rfl).trans e5
     replace D_v21_21 := sf_keepL D_v21_21 hk (by simp)
     replace own_b2_2 := own_keepL own_b2_2 hk (by simp [ne_b2_2_bo13_11])
     replace own_b1_2 := own_keepL own_b1_2 hk (by simp [ne_b1_2_bo13_11])
     replace own_b5_14 := own_keepL own_b5_14 hk (by simp [ne_bo13_11_b5_14.symm])
     have own_bo13_11 := hP
     replace own_bo13_11 : Own W25 bo13_11 [(.int .u8 (0)), (.int .i64 (0)), (.string (⟨#[]⟩)), (.slice none 0 0), (.slice none 0 0), (.map none), (.int .i64 (ofE x))] 74 := own_bo13_11
     replace kw := keeps_L kw hk (in_cons (.inl lo_bo13_11) in_nil)
     clear hR hk hg hP
     refine tail_nil (hK24 _ _ ?_)
     refine wp_seq_k fun K26 hK26 => ?_
     refine wp_seq_k fun K27 hK27 => ?_
     refine rg mixed y25 zz25 ?_
     refine .i (sp_move (hbs rfl e4)) ?_
     refine .i (v := (.bool (false))) (sp_call2 (φ1 := Is (.pointer (some ⟨bo13_11, 0, none⟩))) (φ2 := Is (.string (⟨#[99, 117, 115, 116, 111, 109]⟩))) ent42 (hlc rfl) Has.cst (fun g u1 u2 W hk hgk h1 h2 => by have h1 : u1 = _ := h1; subst u1; have h2 : u2 = _ := h2; subst u2; exact HasOD_ok _ _ _ _ _ _ _ hE _ W _ (own_bo13_11.ext hk))) ?_
     refine .done ⟨by kernel_rfl, fun a28 g W28 y28 zz28 hk hg hV hR hP => ?_⟩
     obtain ⟨e28, -, -⟩ := hV
     replace e2 := (hR 2 rfl).trans e2
     replace e4 := (hR 4 rfl).trans e4
     replace e5 := (hR 5 rfl).trans e5
     replace D_v21_21 := D_v21_21.ext hk
     have e28 : sl a28 28 = (.bool (false)) := e28
     replace own_b2_2 := own_b2_2.ext hk
     replace own_b1_2 := own_b1_2.ext hk
     replace own_bo13_11 := own_bo13_11.ext hk
     replace own_b5_14 := own_b5_14.ext hk
     replace kw := kw.x hk
     clear hR hk hg hP
     refine tail_nil (hK27 _ _ ?_)
     refine wp_cond_false e28 ?_
     refine wp_skip (hK26 _ _ ?_)
     refine wp_seq_k fun K29 hK29 => ?_
     refine wp_seq_k fun K30 hK30 => ?_
     refine rg mixed y28 zz28 ?_
     refine .i (sp_move (hbs rfl e4)) ?_
     refine .i (v := (.int .i64 (errK 0 (ofE x)))) (sp_call1 (φ1 := Is (.pointer (some ⟨bo13_11, 0, none⟩))) ent32 (hlc rfl) (fun g u1 W hk hgk h1 => by have h1 : u1 = _ := h1; subst u1; exact DoneD_ok _ _ _ _ _ _ _ hE W _ (own_bo13_11.ext hk))) ?_
     refine .i (sp_assign (hlc rfl)) ?_
     refine .done ⟨by kernel_rfl, fun a31 g W31 y31 zz31 hk hg hV hR hP => ?_⟩
     obtain ⟨e7, -, -, -⟩ := hV
     replace e2 := (hR 2 rfl).trans e2
     replace e5 := (hR 5 rfl).trans e5
     replace D_v21_21 := D_v21_21.ext hk
     have e7 : sl a31 7 = (.int .i64 (errK 0 (ofE x))) := e7
     replace own_b2_2 := own_b2_2.ext hk
     replace own_b1_2 := own_b1_2.ext hk
     replace own_bo13_11 := own_bo13_11.ext hk
     replace own_b5_14 := own_b5_14.ext hk
     replace kw := kw.x hk
     clear hR hk hg hP
     refine tail_nil (hK30 _ _ ?_)
     refine wp_seq_k fun K32 hK32 => ?_
     refine rg mixed y31 zz31 ?_
     refine .i (sp_move (hbs rfl e7)) ?_
     refine .i (sp_neq (hlc rfl) Has.cst) ?_
     refine .done ⟨by kernel_rfl, fun a33 g W33 y33 zz33 hk hg hV hR hP => ?_⟩
     obtain ⟨e35, -, -⟩ := hV
     replace e2 := (hR 2 rfl).trans e2
     replace e5 := (hR 5 rfl).trans e5
     replace e7 := (hR 7 rfl).trans e7
     replace D_v21_21 := D_v21_21.ext hk
     replace e35 := e35.q
     replace own_b2_2 := own_b2_2.ext hk
     replace own_b1_2 := own_b1_2.ext hk
     replace own_bo13_11 := own_bo13_11.ext hk
     replace own_b5_14 := own_b5_14.ext hk
     replace kw := kw.x hk
     clear hR hk hg hP
     refine tail_nil (hK32 _ _ ?_)
     refine wp_cond_split e35 (fun hc => ?_) (fun hc => ?_)
     ·
      have hoe : ofRE x = errK 0 (ofE x) := by rw [ofRE, if_neg hm, if_pos hof, ofE_dead hof]
      have hov : ofRV x = ⟨0, [], ⟨0, 0, ⟨#[]⟩, [], []⟩⟩ := by rw [ofRV, if_neg (by rw [hoe]; exact hE)]
      refine wp_seq_k fun K34 hK34 => ?_
      refine rg mixed y33 zz33 ?_
      refine .i (v := (.agg #[(.int .i64 (0)), (.slice none 0 0), (.int .u8 (0)), (.int .i64 (0)), (.string (⟨#[]⟩)), (.slice none 0 0), (.slice none 0 0)])) (sp_build (vs := []) Try.underlying87 z87 (pl87 Try.underlying87) trivial rfl) ?_
      refine .i (sp_move (hbs rfl e7)) ?_
      refine .done ⟨by kernel_rfl, fun a35 g W35 y35 zz35 hk hg hV hR hP => ?_⟩
      obtain ⟨e37, e36, -⟩ := hV
      replace e2 := (hR 2 rfl).trans e2
      replace D_v21_21 := D_v21_21.ext hk
      replace e36 := e36.q
      have e37 : sl a35 37 = (.int .i64 (errK 0 (ofE x))) := e37
      replace own_b2_2 := own_b2_2.ext hk
      replace own_b1_2 := own_b1_2.ext hk
      replace own_bo13_11 := own_bo13_11.ext hk
      replace own_b5_14 := own_b5_14.ext hk
      replace kw := kw.x hk
      clear hR hk hg hP
      refine tail_store (b := b2_2) (o := 0) (v := (.agg #[(.int .i64 (0)), (.slice none 0 0), (.int .u8 (0)), (.int .i64 (0)), (.string (⟨#[]⟩)), (.slice none 0 0), (.slice none 0 0)])) e2 e36 sz87 rfl own_b2_2 (lbr rfl) (all_cons rfl (all_cons rfl (all_cons rfl (all_cons rfl (all_cons rfl (all_cons rfl (all_cons rfl all_nil))))))) (fun W36 hs own_b2_2 => ?_)
      have own_b2_2 : Own W36 b2_2 [(.int .i64 (0)), (.slice none 0 0), (.int .u8 (0)), (.int .i64 (0)), (.string (⟨#[]⟩)), (.slice none 0 0), (.slice none 0 0)] 87 := own_b2_2
      replace own_b1_2 := own_store own_b1_2 hs ne_b2_2_b1_2.symm
      replace own_bo13_11 := own_store own_bo13_11 hs ne_b2_2_bo13_11.symm
      replace own_b5_14 := own_store own_b5_14 hs ne_b2_2_b5_14.symm
      replace D_v21_21 := sf_store D_v21_21 hs (by simp)
      replace kw := keeps_store kw hs lo_b2_2
      clear hs
      refine tail_assign (v := (.int .i64 (errK 0 (ofE x)))) e37 (by rw [y35]; exact Nat.le_of_ble_eq_true rfl) (fun a37 y37 zz37 e3 hr => ?_)
      replace y37 := y37.trans y35; replace zz37 := zz37.trans zz35
      replace e2 := (hr 2 (by decide)).trans e2
      replace e36 := (hr 36 (by decide)).trans e36
      replace e37 := (hr 37 (by decide)).trans e37
      clear hr
      refine tail_nil (hK34 _ _ ?_)
      refine wp_ret ?_
      refine (show bodyPost Try.prog Try.f72 _ .ret _ _ from retCT (v := (.agg #[(.int .i64 (0)), (.slice none 0 0), (.int .u8 (0)), (.int .i64 (0)), (.string (⟨#[]⟩)), (.slice none 0 0), (.slice none 0 0)])) rfl zz37 e2 own_b2_2 agg87 sz87 rfl (fun h => by cases h) rfl e3 ⟨_, rfl, kw, ?_⟩)
      refine ⟨_, congrArg (fun q => Value.tuple #[_, Value.int .i64 q]) hoe.symm, ?_⟩
      rw [hov]
      exact sf_fr (rdRc_mk (rd_nil _) (rdV_mk (lbr rfl) (rd_nil _) (rd_nil _) : Rd W36 (SF w [b5_14, bo13_11, b2_2, b1_2]) (V.d (V.mk (0) (0) (⟨#[]⟩) ([]) ([]))) _) : Rd W36 (SF w [b5_14, bo13_11, b2_2, b1_2]) (Rc.d (Rc.mk (0) ([]) (V.mk (0) (0) (⟨#[]⟩) ([]) ([])))) _)
     ·
      exact absurd (bne_eq_false_iff_eq.1 hc) hE
set_option maxRecDepth 100000 in
theorem obj21_ok (ns : List ByteArray) (xs : List V) (w : World) (S : BSet) (v u : Value) (hv : Rd w S (strsD ns) v) (hu : Rd w S (valsD xs) u) : Calls Try.prog 71 #[v, u] w (Ret w fun u W => Rd W (Ar w S) (V.d (V.mk 5 0 ⟨#[]⟩ ns xs)) u) := by
  obtain ⟨va, vc, ev, D_v⟩ := rdS_out (rd_arg hv)
  subst ev
  obtain ⟨ua, uc, ev, D_u⟩ := rdVs_out (rd_arg hu)
  subst ev
  refine enter Try.func71 rfl Try.ntmps71 (lbr rfl) fun a0 y0 zz0 harg => ?_
  have e0 : sl a0 0 = (.slice va (ns.length) vc) := harg 0 (lbr rfl)
  have e1 : sl a0 1 = (.slice ua (xs.length) uc) := harg 1 (lbr rfl)
  have kw := Keeps.refl All w
  clear harg
  refine wp_seq_k fun K1 hK1 => ?_
  refine rg mixed y0 zz0 ?_
  refine .alloc z33 ?_
  refine .done ⟨by kernel_rfl, fun a2 g W2 y2 zz2 hk hg hV hR hP => ?_⟩
  obtain ⟨⟨b4_2, e4, hb4, own_b4_2⟩, -⟩ := hV
  have lo_b4_2 : w.heap.size ≤ b4_2 := Nat.le_trans kw.size (hg.lo _ _ hb4)
  have own_b4_2 : Own W2 b4_2 [(.int .u8 (0)), (.int .i64 (0)), (.string (⟨#[]⟩)), (.slice none 0 0), (.slice none 0 0)] 33 := own_b4_2
  replace e0 := (hR 0 rfl).trans e0
  replace e1 := (hR 1 rfl).trans e1
  replace D_v := sa_more D_v hk [b4_2] (in_cons (hg.lo _ _ hb4) in_nil)
  replace D_u := sa_more D_u hk [b4_2] (in_cons (hg.lo _ _ hb4) in_nil)
  replace kw := kw.x hk
  clear hR hk hg hP hb4
  refine tail_nil (hK1 _ _ ?_)
  refine wp_seq_k fun K3 hK3 => ?_
  refine rg mixed y2 zz2 ?_
  refine .i (sp_move (hbs rfl e0)) ?_
  refine .i (sp_move (hbs rfl e1)) ?_
  refine .i (v := (.agg #[(.int .u8 (5)), (.int .i64 (0)), (.string (⟨#[]⟩)), (.slice va (ns.length) vc), (.slice ua (xs.length) uc)])) (sp_build (vs := [(0, (.int .u8 (5))), (3, (.slice va (ns.length) vc)), (4, (.slice ua (xs.length) uc))]) Try.underlying33 z33 (pl33 Try.underlying33) ⟨rfl, Has.cst, rfl, (hlc rfl), rfl, (hlc rfl), trivial⟩ rfl) ?_
  refine .done ⟨by kernel_rfl, fun a4 g W4 y4 zz4 hk hg hV hR hP => ?_⟩
  obtain ⟨e7, -, -, -⟩ := hV
  replace e4 := (hR 4 rfl).trans e4
  replace D_v := D_v.ext hk
  replace D_u := D_u.ext hk
  replace e7 := e7.q
  replace own_b4_2 := own_b4_2.ext hk
  replace kw := kw.x hk
  clear hR hk hg hP
  refine tail_store (b := b4_2) (o := 0) (v := (.agg #[(.int .u8 (5)), (.int .i64 (0)), (.string (⟨#[]⟩)), (.slice va (ns.length) vc), (.slice ua (xs.length) uc)])) e4 e7 sz33 rfl own_b4_2 (lbr rfl) (all_cons rfl (all_cons rfl (all_cons rfl (all_cons rfl (all_cons rfl all_nil))))) (fun W5 hs own_b4_2 => ?_)
  have own_b4_2 : Own W5 b4_2 [(.int .u8 (5)), (.int .i64 (0)), (.string (⟨#[]⟩)), (.slice va (ns.length) vc), (.slice ua (xs.length) uc)] 33 := own_b4_2
  replace D_v := sa_store D_v hs (by simp)
  replace D_u := sa_store D_u hs (by simp)
  replace kw := keeps_store kw hs lo_b4_2
  clear hs
  refine tail_nil (hK3 _ _ ?_)
  refine wp_ret ?_
  refine (show bodyPost Try.prog Try.f71 _ .ret _ _ from retC (v := (.agg #[(.int .u8 (5)), (.int .i64 (0)), (.string (⟨#[]⟩)), (.slice va (ns.length) vc), (.slice ua (xs.length) uc)])) rfl zz4 e4 own_b4_2 agg33 sz33 rfl (fun h => by cases h) rfl ⟨_, rfl, kw, ?_⟩)
  exact sa_ar (rdV_mk (lbr rfl) D_v D_u : Rd W5 (SA w S [b4_2]) (V.d (V.mk (5) (0) (⟨#[]⟩) (ns) (xs))) _)
end Go.Proofs.Ytnobijngkpflcaa
namespace Go.Proofs.Ytnobijngkpflcaa
open Go.Eng
set_option maxRecDepth 100000 in
set_option maxHeartbeats 2000000 in
theorem awakeR_ok (w : World) : Calls Try.prog 68 #[] w (Ret w fun u _ => u = .bool true) := by
  refine enter Try.func68 rfl Try.ntmps68 (lbr rfl) fun a0 y0 zz0 harg => ?_
  have kw := Keeps.refl All w
  clear harg
  refine wp_seq_k fun K1 hK1 => ?_
  refine rg mixed y0 zz0 ?_
  refine .i (sp_assign Has.cst) ?_
  refine .done ⟨by kernel_rfl, fun a2 g W2 y2 zz2 hk hg hV hR hP => ?_⟩
  obtain ⟨-, -⟩ := hV
  replace kw := kw.x hk
  clear hR hk hg hP
  refine tail_nil (hK1 _ _ ?_)
  refine wp_seq_k fun K3 hK3 => ?_
  refine rg mixed y2 zz2 ?_
  refine .i (v := (.agg #[(.int .u8 (2)), (.int .i64 (3)), (.string (⟨#[]⟩)), (.slice none 0 0), (.slice none 0 0)])) (sp_build (vs := [(0, (.int .u8 (2))), (1, (.int .i64 (3)))]) Try.underlying33 z33 (pl33 Try.underlying33) ⟨rfl, Has.cst, rfl, Has.cst, trivial⟩ rfl) ?_
  refine .i (v := (.agg #[(.int .u8 (3)), (.int .i64 (0)), (.string (⟨#[97, 98]⟩)), (.slice none 0 0), (.slice none 0 0)])) (sp_build (vs := [(0, (.int .u8 (3))), (2, (.string (⟨#[97, 98]⟩)))]) Try.underlying33 z33 (pl33 Try.underlying33) ⟨rfl, Has.cst, rfl, Has.cst, trivial⟩ rfl) ?_
  refine .alloc z33 ?_
  refine .alloc z33 ?_
  refine .done ⟨by kernel_rfl, fun a4 g W4 y4 zz4 hk hg hV hR hP => ?_⟩
  obtain ⟨⟨b2_4, e2, hb2, own_b2_4⟩, ⟨b1_4, e1, hb1, own_b1_4⟩, e19, e18, -⟩ := hV
  have lo_b2_4 : w.heap.size ≤ b2_4 := Nat.le_trans kw.size (hg.lo _ _ hb2)
  have own_b2_4 : Own W4 b2_4 [(.int .u8 (0)), (.int .i64 (0)), (.string (⟨#[]⟩)), (.slice none 0 0), (.slice none 0 0)] 33 := own_b2_4
  have lo_b1_4 : w.heap.size ≤ b1_4 := Nat.le_trans kw.size (hg.lo _ _ hb1)
  have own_b1_4 : Own W4 b1_4 [(.int .u8 (0)), (.int .i64 (0)), (.string (⟨#[]⟩)), (.slice none 0 0), (.slice none 0 0)] 33 := own_b1_4
  have ne_b2_4_b1_4 : b2_4 ≠ b1_4 := fun h => by have := hg.inj _ _ _ hb2 (h ▸ hb1); cases this
  replace e18 := e18.q
  replace e19 := e19.q
  replace kw := kw.x hk
  clear hR hk hg hP hb2 hb1
  refine tail_store (b := b1_4) (o := 0) (v := (.agg #[(.int .u8 (2)), (.int .i64 (3)), (.string (⟨#[]⟩)), (.slice none 0 0), (.slice none 0 0)])) e1 e18 sz33 rfl own_b1_4 (lbr rfl) (all_cons rfl (all_cons rfl (all_cons rfl (all_cons rfl (all_cons rfl all_nil))))) (fun W5 hs own_b1_4 => ?_)
  have own_b1_4 : Own W5 b1_4 [(.int .u8 (2)), (.int .i64 (3)), (.string (⟨#[]⟩)), (.slice none 0 0), (.slice none 0 0)] 33 := own_b1_4
  replace own_b2_4 := own_store own_b2_4 hs ne_b2_4_b1_4
  replace kw := keeps_store kw hs lo_b1_4
  clear hs
  refine tail_store (b := b2_4) (o := 0) (v := (.agg #[(.int .u8 (3)), (.int .i64 (0)), (.string (⟨#[97, 98]⟩)), (.slice none 0 0), (.slice none 0 0)])) e2 e19 sz33 rfl own_b2_4 (lbr rfl) (all_cons rfl (all_cons rfl (all_cons rfl (all_cons rfl (all_cons rfl all_nil))))) (fun W6 hs own_b2_4 => ?_)
  have own_b2_4 : Own W6 b2_4 [(.int .u8 (3)), (.int .i64 (0)), (.string (⟨#[97, 98]⟩)), (.slice none 0 0), (.slice none 0 0)] 33 := own_b2_4
  replace own_b1_4 := own_store own_b1_4 hs ne_b2_4_b1_4.symm
  replace kw := keeps_store kw hs lo_b2_4
  clear hs
  refine tail_nil (hK3 _ _ ?_)
  refine wp_seq_k fun K7 hK7 => ?_
  refine rg mixed y4 zz4 ?_
  refine .i (v := (.agg #[(.int .u8 (1)), (.int .i64 (1)), (.string (⟨#[]⟩)), (.slice none 0 0), (.slice none 0 0)])) (sp_build (vs := [(0, (.int .u8 (1))), (1, (.int .i64 (1)))]) Try.underlying33 z33 (pl33 Try.underlying33) ⟨rfl, Has.cst, rfl, Has.cst, trivial⟩ rfl) ?_
  refine .alloc z33 ?_
  refine .done ⟨by kernel_rfl, fun a8 g W8 y8 zz8 hk hg hV hR hP => ?_⟩
  obtain ⟨⟨b3_8, e3, hb3, own_b3_8⟩, e20, -⟩ := hV
  have lo_b3_8 : w.heap.size ≤ b3_8 := Nat.le_trans kw.size (hg.lo _ _ hb3)
  have ne_b2_4_b3_8 : b2_4 ≠ b3_8 := Nat.ne_of_lt (Nat.lt_of_lt_of_le own_b2_4.lt (hg.lo _ _ hb3))
  have ne_b1_4_b3_8 : b1_4 ≠ b3_8 := Nat.ne_of_lt (Nat.lt_of_lt_of_le own_b1_4.lt (hg.lo _ _ hb3))
  have own_b3_8 : Own W8 b3_8 [(.int .u8 (0)), (.int .i64 (0)), (.string (⟨#[]⟩)), (.slice none 0 0), (.slice none 0 0)] 33 := own_b3_8
  replace e2 := (hR 2 rfl).trans e2
  replace e1 := (hR 1 rfl).trans e1
  replace e20 := e20.q
  replace own_b2_4 := own_b2_4.ext hk
  replace own_b1_4 := own_b1_4.ext hk
  replace kw := kw.x hk
  clear hR hk hg hP hb3
  refine tail_store (b := b3_8) (o := 0) (v := (.agg #[(.int .u8 (1)), (.int .i64 (1)), (.string (⟨#[]⟩)), (.slice none 0 0), (.slice none 0 0)])) e3 e20 sz33 rfl own_b3_8 (lbr rfl) (all_cons rfl (all_cons rfl (all_cons rfl (all_cons rfl (all_cons rfl all_nil))))) (fun W9 hs own_b3_8 => ?_)
  have own_b3_8 : Own W9 b3_8 [(.int .u8 (1)), (.int .i64 (1)), (.string (⟨#[]⟩)), (.slice none 0 0), (.slice none 0 0)] 33 := own_b3_8
  replace own_b2_4 := own_store own_b2_4 hs ne_b2_4_b3_8
  replace own_b1_4 := own_store own_b1_4 hs ne_b1_4_b3_8
  replace kw := keeps_store kw hs lo_b3_8
  clear hs
  refine tail_nil (hK7 _ _ ?_)
  refine wp_seq_k fun K10 hK10 => ?_
  refine rg mixed y8 zz8 ?_
  refine .i (v := (.agg #[(.string (⟨#[115, 104, 97, 50, 53, 54]⟩)), (.string (⟨#[97, 98]⟩))])) (sp_build (vs := [(0, (.string (⟨#[115, 104, 97, 50, 53, 54]⟩))), (1, (.string (⟨#[97, 98]⟩)))]) Try.underlying114 z114 (pl114 Try.underlying114) ⟨rfl, Has.cst, rfl, Has.cst, trivial⟩ rfl) ?_
  refine .da (X := SF w [b3_8, b2_4, b1_4]) (e := hssD ([Hs.mk (⟨#[115, 104, 97, 50, 53, 54]⟩) (⟨#[97, 98]⟩)])) (sp_bsl (ds := [Hs.d (Hs.mk (⟨#[115, 104, 97, 50, 53, 54]⟩) (⟨#[97, 98]⟩))]) Try.underlying85 sz114 z114 (lbr rfl) (lbr rfl) ⟨rfl, ((hlc rfl).dat (rdHs_mk (lbr rfl) (lbr rfl) : Rd W9 (SF w [b3_8, b2_4, b1_4]) (Hs.d (Hs.mk (⟨#[115, 104, 97, 50, 53, 54]⟩) (⟨#[97, 98]⟩))) _) sub_all), trivial⟩ rfl (by intro e he; simp at he; rcases he with rfl <;> exact width_Hs _) (fr_sf kw (in_cons own_b3_8.lt (in_cons own_b2_4.lt (in_cons own_b1_4.lt in_nil))))) ?_
  refine .i (v := (.agg #[(.int .u8 (1)), (.int .i64 (1)), (.string (⟨#[]⟩)), (.slice none 0 0), (.slice none 0 0)])) (loA (hbs rfl e3) own_b3_8 trivial agg33 sz33 rfl rfl) ?_
  refine .da (X := SF w [b3_8, b2_4, b1_4]) (e := Rc.d (Rc.mk (3) ([Hs.mk (⟨#[115, 104, 97, 50, 53, 54]⟩) (⟨#[97, 98]⟩)]) (V.mk (1) (1) (⟨#[]⟩) ([]) ([])))) (sp_buildD (zd := [D.int .i64 0, hssD [], V.d V.zero]) (es := [(0, D.int .i64 (3)), (1, hssD ([Hs.mk (⟨#[115, 104, 97, 50, 53, 54]⟩) (⟨#[97, 98]⟩)])), (2, V.d (V.mk (1) (1) (⟨#[]⟩) ([]) ([])))]) Try.underlying87 z87 (pl87 Try.underlying87) ⟨rfl, Has.cst.int, ⟨rfl, (hlc rfl), ⟨rfl, ((hlc rfl).dat (rdV_mk (lbr rfl) (rd_nil _) (rd_nil _) : Rd W9 (SF w [b3_8, b2_4, b1_4]) (V.d (V.mk (1) (1) (⟨#[]⟩) ([]) ([]))) _) sub_all), trivial⟩⟩⟩ zRc (by first | rfl | simp [plOf, width, width_V, hssD]) (by simp [fits, width, strsD, valsD, hssD, width_V]) rfl) ?_
  refine .alloc z87 ?_
  refine .done ⟨by kernel_rfl, fun a11 g W11 y11 zz11 hk hg hV hR hP => ?_⟩
  obtain ⟨⟨b4_11, e4, hb4, own_b4_11⟩, e24, -, -, -, -⟩ := hV
  have lo_b4_11 : w.heap.size ≤ b4_11 := Nat.le_trans kw.size (hg.lo _ _ hb4)
  have ne_b2_4_b4_11 : b2_4 ≠ b4_11 := Nat.ne_of_lt (Nat.lt_of_lt_of_le own_b2_4.lt (hg.lo _ _ hb4))
  have ne_b1_4_b4_11 : b1_4 ≠ b4_11 := Nat.ne_of_lt (Nat.lt_of_lt_of_le own_b1_4.lt (hg.lo _ _ hb4))
  have ne_b3_8_b4_11 : b3_8 ≠ b4_11 := Nat.ne_of_lt (Nat.lt_of_lt_of_le own_b3_8.lt (hg.lo _ _ hb4))
  have own_b4_11 : Own W11 b4_11 [(.int .i64 (0)), (.slice none 0 0), (.int .u8 (0)), (.int .i64 (0)), (.string (⟨#[]⟩)), (.slice none 0 0), (.slice none 0 0)] 87 := own_b4_11
  replace e2 := (hR 2 rfl).trans e2
  replace e1 := (hR 1 rfl).trans e1
  replace e3 := (hR 3 rfl).trans e3
  obtain ⟨v24_11, ev⟩ : ∃ v, sl a11 24 = v := ⟨_, rfl⟩
  rw [ev] at e24
  have D_v24_11 : Rd W11 (SF w [b4_11, b3_8, b2_4, b1_4]) (Rc.d (Rc.mk (3) ([Hs.mk (⟨#[115, 104, 97, 50, 53, 54]⟩) (⟨#[97, 98]⟩)]) (V.mk (1) (1) (⟨#[]⟩) ([]) ([])))) v24_11 := sf_end e24 hk [b4_11] (in_cons ⟨_, hb4⟩ in_nil)
  replace e24 := ev; clear ev
  obtain ⟨v24_11_1a, v24_11_1c, v24_11_5a, v24_11_5c, v24_11_6a, v24_11_6c, ev, hb_v24_11_4, D_v24_11_1, D_v24_11_5, D_v24_11_6⟩ := rdRc_out D_v24_11
  subst ev; clear D_v24_11
  replace own_b2_4 := own_b2_4.ext hk
  replace own_b1_4 := own_b1_4.ext hk
  replace own_b3_8 := own_b3_8.ext hk
  replace kw := kw.x hk
  clear hR hk hg hP hb4
  refine tail_store (b := b4_11) (o := 0) (v := (.agg #[(.int .i64 ((Rc.mk (3) ([Hs.mk (⟨#[115, 104, 97, 50, 53, 54]⟩) (⟨#[97, 98]⟩)]) (V.mk (1) (1) (⟨#[]⟩) ([]) ([]))).ln)), (.slice v24_11_1a (((Rc.mk (3) ([Hs.mk (⟨#[115, 104, 97, 50, 53, 54]⟩) (⟨#[97, 98]⟩)]) (V.mk (1) (1) (⟨#[]⟩) ([]) ([]))).hs).length) v24_11_1c), (.int .u8 ((Rc.mk (3) ([Hs.mk (⟨#[115, 104, 97, 50, 53, 54]⟩) (⟨#[97, 98]⟩)]) (V.mk (1) (1) (⟨#[]⟩) ([]) ([]))).cu.k)), (.int .i64 ((Rc.mk (3) ([Hs.mk (⟨#[115, 104, 97, 50, 53, 54]⟩) (⟨#[97, 98]⟩)]) (V.mk (1) (1) (⟨#[]⟩) ([]) ([]))).cu.n)), (.string ((Rc.mk (3) ([Hs.mk (⟨#[115, 104, 97, 50, 53, 54]⟩) (⟨#[97, 98]⟩)]) (V.mk (1) (1) (⟨#[]⟩) ([]) ([]))).cu.t)), (.slice v24_11_5a (((Rc.mk (3) ([Hs.mk (⟨#[115, 104, 97, 50, 53, 54]⟩) (⟨#[97, 98]⟩)]) (V.mk (1) (1) (⟨#[]⟩) ([]) ([]))).cu.ns).length) v24_11_5c), (.slice v24_11_6a (((Rc.mk (3) ([Hs.mk (⟨#[115, 104, 97, 50, 53, 54]⟩) (⟨#[97, 98]⟩)]) (V.mk (1) (1) (⟨#[]⟩) ([]) ([]))).cu.xs).length) v24_11_6c)])) e4 e24 sz87 rfl own_b4_11 (lbr rfl) (all_cons rfl (all_cons rfl (all_cons rfl (all_cons rfl (all_cons rfl (all_cons rfl (all_cons rfl all_nil))))))) (fun W12 hs own_b4_11 => ?_)
  have own_b4_11 : Own W12 b4_11 [(.int .i64 ((Rc.mk (3) ([Hs.mk (⟨#[115, 104, 97, 50, 53, 54]⟩) (⟨#[97, 98]⟩)]) (V.mk (1) (1) (⟨#[]⟩) ([]) ([]))).ln)), (.slice v24_11_1a (((Rc.mk (3) ([Hs.mk (⟨#[115, 104, 97, 50, 53, 54]⟩) (⟨#[97, 98]⟩)]) (V.mk (1) (1) (⟨#[]⟩) ([]) ([]))).hs).length) v24_11_1c), (.int .u8 ((Rc.mk (3) ([Hs.mk (⟨#[115, 104, 97, 50, 53, 54]⟩) (⟨#[97, 98]⟩)]) (V.mk (1) (1) (⟨#[]⟩) ([]) ([]))).cu.k)), (.int .i64 ((Rc.mk (3) ([Hs.mk (⟨#[115, 104, 97, 50, 53, 54]⟩) (⟨#[97, 98]⟩)]) (V.mk (1) (1) (⟨#[]⟩) ([]) ([]))).cu.n)), (.string ((Rc.mk (3) ([Hs.mk (⟨#[115, 104, 97, 50, 53, 54]⟩) (⟨#[97, 98]⟩)]) (V.mk (1) (1) (⟨#[]⟩) ([]) ([]))).cu.t)), (.slice v24_11_5a (((Rc.mk (3) ([Hs.mk (⟨#[115, 104, 97, 50, 53, 54]⟩) (⟨#[97, 98]⟩)]) (V.mk (1) (1) (⟨#[]⟩) ([]) ([]))).cu.ns).length) v24_11_5c), (.slice v24_11_6a (((Rc.mk (3) ([Hs.mk (⟨#[115, 104, 97, 50, 53, 54]⟩) (⟨#[97, 98]⟩)]) (V.mk (1) (1) (⟨#[]⟩) ([]) ([]))).cu.xs).length) v24_11_6c)] 87 := own_b4_11
  replace own_b2_4 := own_store own_b2_4 hs ne_b2_4_b4_11
  replace own_b1_4 := own_store own_b1_4 hs ne_b1_4_b4_11
  replace own_b3_8 := own_store own_b3_8 hs ne_b3_8_b4_11
  replace D_v24_11_1 := sf_store D_v24_11_1 hs (by simp)
  replace D_v24_11_5 := sf_store D_v24_11_5 hs (by simp)
  replace D_v24_11_6 := sf_store D_v24_11_6 hs (by simp)
  replace kw := keeps_store kw hs lo_b4_11
  clear hs
  refine tail_nil (hK10 _ _ ?_)
  refine wp_seq_k fun K13 hK13 => ?_
  refine rg mixed y11 zz11 ?_
  refine .da (X := SF w [b4_11, b3_8, b2_4, b1_4]) (e := strsD ([sCustom, sHashes, sLength])) (sp_bsl (ds := [D.str sCustom, D.str sHashes, D.str sLength]) Try.underlying23 sz9 z9 (lbr rfl) (lbr rfl) ⟨rfl, (Has.cst.str (lbr rfl)), ⟨rfl, (Has.cst.str (lbr rfl)), ⟨rfl, (Has.cst.str (lbr rfl)), trivial⟩⟩⟩ rfl (by simp [width]) (fr_sf kw (in_cons own_b4_11.lt (in_cons own_b3_8.lt (in_cons own_b2_4.lt (in_cons own_b1_4.lt in_nil)))))) ?_
  refine .i (v := (.agg #[(.int .u8 (1)), (.int .i64 (1)), (.string (⟨#[]⟩)), (.slice none 0 0), (.slice none 0 0)])) (loA (hbs rfl e3) own_b3_8 trivial agg33 sz33 rfl rfl) ?_
  refine .da (X := SF w [b4_11, b3_8, b2_4, b1_4]) (e := strsD ([⟨#[115, 104, 97, 50, 53, 54]⟩])) (sp_bsl (ds := [D.str (⟨#[115, 104, 97, 50, 53, 54]⟩)]) Try.underlying23 sz9 z9 (lbr rfl) (lbr rfl) ⟨rfl, (Has.cst.str (lbr rfl)), trivial⟩ rfl (by simp [width]) (fr_sf kw (in_cons own_b4_11.lt (in_cons own_b3_8.lt (in_cons own_b2_4.lt (in_cons own_b1_4.lt in_nil)))))) ?_
  refine .i (v := (.agg #[(.int .u8 (3)), (.int .i64 (0)), (.string (⟨#[97, 98]⟩)), (.slice none 0 0), (.slice none 0 0)])) (loA (hbs rfl e2) own_b2_4 trivial agg33 sz33 rfl rfl) ?_
  refine .da (X := SF w [b4_11, b3_8, b2_4, b1_4]) (e := valsD ([V.mk (3) (0) (⟨#[97, 98]⟩) ([]) ([])])) (sp_bsl (ds := [V.d (V.mk (3) (0) (⟨#[97, 98]⟩) ([]) ([]))]) Try.underlying31 sz33 z33 (lbr rfl) (lbr rfl) ⟨rfl, ((hlc rfl).dat (rdV_mk (lbr rfl) (rd_nil _) (rd_nil _) : Rd W12 (SF w [b4_11, b3_8, b2_4, b1_4]) (V.d (V.mk (3) (0) (⟨#[97, 98]⟩) ([]) ([]))) _) sub_all), trivial⟩ rfl (by intro e he; simp at he; rcases he with rfl <;> exact width_V _) (fr_sf kw (in_cons own_b4_11.lt (in_cons own_b3_8.lt (in_cons own_b2_4.lt (in_cons own_b1_4.lt in_nil)))))) ?_
  refine .da (X := SF w [b4_11, b3_8, b2_4, b1_4]) (e := V.d (V.mk 5 0 ⟨#[]⟩ ([⟨#[115, 104, 97, 50, 53, 54]⟩]) ([V.mk (3) (0) (⟨#[97, 98]⟩) ([]) ([])]))) (sp_call2 (φ1 := IsD (SF w [b4_11, b3_8, b2_4, b1_4]) (strsD ([⟨#[115, 104, 97, 50, 53, 54]⟩]))) (φ2 := IsD (SF w [b4_11, b3_8, b2_4, b1_4]) (valsD ([V.mk (3) (0) (⟨#[97, 98]⟩) ([]) ([])]))) ent71 (hlc rfl) (hlc rfl) (fun g u1 u2 W hk hgk h1 h2 => (obj21_ok ([⟨#[115, 104, 97, 50, 53, 54]⟩]) ([V.mk (3) (0) (⟨#[97, 98]⟩) ([]) ([])]) W _ _ _ h1 h2).mono (ret_arF kw (in_cons own_b4_11.lt (in_cons own_b3_8.lt (in_cons own_b2_4.lt (in_cons own_b1_4.lt in_nil)))) hk hgk))) ?_
  refine .i (v := (.agg #[(.int .u8 (2)), (.int .i64 (3)), (.string (⟨#[]⟩)), (.slice none 0 0), (.slice none 0 0)])) (loA (hbs rfl e1) own_b1_4 trivial agg33 sz33 rfl rfl) ?_
  refine .da (X := SF w [b4_11, b3_8, b2_4, b1_4]) (e := valsD ([V.mk (1) (1) (⟨#[]⟩) ([]) ([]), V.mk 5 0 ⟨#[]⟩ ([⟨#[115, 104, 97, 50, 53, 54]⟩]) ([V.mk (3) (0) (⟨#[97, 98]⟩) ([]) ([])]), V.mk (2) (3) (⟨#[]⟩) ([]) ([])])) (sp_bsl (ds := [V.d (V.mk (1) (1) (⟨#[]⟩) ([]) ([])), V.d (V.mk 5 0 ⟨#[]⟩ ([⟨#[115, 104, 97, 50, 53, 54]⟩]) ([V.mk (3) (0) (⟨#[97, 98]⟩) ([]) ([])])), V.d (V.mk (2) (3) (⟨#[]⟩) ([]) ([]))]) Try.underlying31 sz33 z33 (lbr rfl) (lbr rfl) ⟨rfl, ((hlc rfl).dat (rdV_mk (lbr rfl) (rd_nil _) (rd_nil _) : Rd W12 (SF w [b4_11, b3_8, b2_4, b1_4]) (V.d (V.mk (1) (1) (⟨#[]⟩) ([]) ([]))) _) sub_all), ⟨rfl, (hlc rfl), ⟨rfl, ((hlc rfl).dat (rdV_mk (lbr rfl) (rd_nil _) (rd_nil _) : Rd W12 (SF w [b4_11, b3_8, b2_4, b1_4]) (V.d (V.mk (2) (3) (⟨#[]⟩) ([]) ([]))) _) sub_all), trivial⟩⟩⟩ rfl (by intro e he; simp at he; rcases he with rfl | rfl | rfl <;> exact width_V _) (fr_sf kw (in_cons own_b4_11.lt (in_cons own_b3_8.lt (in_cons own_b2_4.lt (in_cons own_b1_4.lt in_nil)))))) ?_
  refine .da (X := SF w [b4_11, b3_8, b2_4, b1_4]) (e := V.d (V.mk 5 0 ⟨#[]⟩ ([sCustom, sHashes, sLength]) ([V.mk (1) (1) (⟨#[]⟩) ([]) ([]), V.mk 5 0 ⟨#[]⟩ ([⟨#[115, 104, 97, 50, 53, 54]⟩]) ([V.mk (3) (0) (⟨#[97, 98]⟩) ([]) ([])]), V.mk (2) (3) (⟨#[]⟩) ([]) ([])]))) (sp_call2 (φ1 := IsD (SF w [b4_11, b3_8, b2_4, b1_4]) (strsD ([sCustom, sHashes, sLength]))) (φ2 := IsD (SF w [b4_11, b3_8, b2_4, b1_4]) (valsD ([V.mk (1) (1) (⟨#[]⟩) ([]) ([]), V.mk 5 0 ⟨#[]⟩ ([⟨#[115, 104, 97, 50, 53, 54]⟩]) ([V.mk (3) (0) (⟨#[97, 98]⟩) ([]) ([])]), V.mk (2) (3) (⟨#[]⟩) ([]) ([])]))) ent71 (hlc rfl) (hlc rfl) (fun g u1 u2 W hk hgk h1 h2 => (obj21_ok ([sCustom, sHashes, sLength]) ([V.mk (1) (1) (⟨#[]⟩) ([]) ([]), V.mk 5 0 ⟨#[]⟩ ([⟨#[115, 104, 97, 50, 53, 54]⟩]) ([V.mk (3) (0) (⟨#[97, 98]⟩) ([]) ([])]), V.mk (2) (3) (⟨#[]⟩) ([]) ([])]) W _ _ _ h1 h2).mono (ret_arF kw (in_cons own_b4_11.lt (in_cons own_b3_8.lt (in_cons own_b2_4.lt (in_cons own_b1_4.lt in_nil)))) hk hgk))) ?_
  refine .alloc z33 ?_
  refine .done ⟨by kernel_rfl, fun a14 g W14 y14 zz14 hk hg hV hR hP => ?_⟩
  obtain ⟨⟨b5_14, e5, hb5, own_b5_14⟩, e33, -, -, -, -, -, -, -, -, -⟩ := hV
  have lo_b5_14 : w.heap.size ≤ b5_14 := Nat.le_trans kw.size (hg.lo _ _ hb5)
  have ne_b2_4_b5_14 : b2_4 ≠ b5_14 := Nat.ne_of_lt (Nat.lt_of_lt_of_le own_b2_4.lt (hg.lo _ _ hb5))
  have ne_b1_4_b5_14 : b1_4 ≠ b5_14 := Nat.ne_of_lt (Nat.lt_of_lt_of_le own_b1_4.lt (hg.lo _ _ hb5))
  have ne_b3_8_b5_14 : b3_8 ≠ b5_14 := Nat.ne_of_lt (Nat.lt_of_lt_of_le own_b3_8.lt (hg.lo _ _ hb5))
  have ne_b4_11_b5_14 : b4_11 ≠ b5_14 := Nat.ne_of_lt (Nat.lt_of_lt_of_le own_b4_11.lt (hg.lo _ _ hb5))
  have own_b5_14 : Own W14 b5_14 [(.int .u8 (0)), (.int .i64 (0)), (.string (⟨#[]⟩)), (.slice none 0 0), (.slice none 0 0)] 33 := own_b5_14
  replace e1 := (hR 1 rfl).trans e1
  replace e4 := (hR 4 rfl).trans e4
  replace D_v24_11_1 := sf_more D_v24_11_1 hk [b5_14] (in_cons (hg.lo _ _ hb5) in_nil)
  replace D_v24_11_5 := sf_more D_v24_11_5 hk [b5_14] (in_cons (hg.lo _ _ hb5) in_nil)
  replace D_v24_11_6 := sf_more D_v24_11_6 hk [b5_14] (in_cons (hg.lo _ _ hb5) in_nil)
  obtain ⟨v33_14, ev⟩ : ∃ v, sl a14 33 = v := ⟨_, rfl⟩
  rw [ev] at e33
  have D_v33_14 : Rd W14 (SF w [b5_14, b4_11, b3_8, b2_4, b1_4]) (V.d (V.mk 5 0 ⟨#[]⟩ ([sCustom, sHashes, sLength]) ([V.mk (1) (1) (⟨#[]⟩) ([]) ([]), V.mk 5 0 ⟨#[]⟩ ([⟨#[115, 104, 97, 50, 53, 54]⟩]) ([V.mk (3) (0) (⟨#[97, 98]⟩) ([]) ([])]), V.mk (2) (3) (⟨#[]⟩) ([]) ([])]))) v33_14 := sf_end e33 hk [b5_14] (in_cons ⟨_, hb5⟩ in_nil)
  replace e33 := ev; clear ev
  obtain ⟨cn33_14a, cn33_14c, ci33_14a, ci33_14c, ev, ht_v33_14, D_cn33_14, D_ci33_14⟩ := rdV_out D_v33_14
  subst ev; clear D_v33_14
  replace own_b2_4 := own_b2_4.ext hk
  replace own_b1_4 := own_b1_4.ext hk
  replace own_b3_8 := own_b3_8.ext hk
  replace own_b4_11 := own_b4_11.ext hk
  replace kw := kw.x hk
  clear hR hk hg hP hb5
  refine tail_store (b := b5_14) (o := 0) (v := (.agg #[(.int .u8 ((V.mk 5 0 ⟨#[]⟩ ([sCustom, sHashes, sLength]) ([V.mk (1) (1) (⟨#[]⟩) ([]) ([]), V.mk 5 0 ⟨#[]⟩ ([⟨#[115, 104, 97, 50, 53, 54]⟩]) ([V.mk (3) (0) (⟨#[97, 98]⟩) ([]) ([])]), V.mk (2) (3) (⟨#[]⟩) ([]) ([])])).k)), (.int .i64 ((V.mk 5 0 ⟨#[]⟩ ([sCustom, sHashes, sLength]) ([V.mk (1) (1) (⟨#[]⟩) ([]) ([]), V.mk 5 0 ⟨#[]⟩ ([⟨#[115, 104, 97, 50, 53, 54]⟩]) ([V.mk (3) (0) (⟨#[97, 98]⟩) ([]) ([])]), V.mk (2) (3) (⟨#[]⟩) ([]) ([])])).n)), (.string ((V.mk 5 0 ⟨#[]⟩ ([sCustom, sHashes, sLength]) ([V.mk (1) (1) (⟨#[]⟩) ([]) ([]), V.mk 5 0 ⟨#[]⟩ ([⟨#[115, 104, 97, 50, 53, 54]⟩]) ([V.mk (3) (0) (⟨#[97, 98]⟩) ([]) ([])]), V.mk (2) (3) (⟨#[]⟩) ([]) ([])])).t)), (.slice cn33_14a (((V.mk 5 0 ⟨#[]⟩ ([sCustom, sHashes, sLength]) ([V.mk (1) (1) (⟨#[]⟩) ([]) ([]), V.mk 5 0 ⟨#[]⟩ ([⟨#[115, 104, 97, 50, 53, 54]⟩]) ([V.mk (3) (0) (⟨#[97, 98]⟩) ([]) ([])]), V.mk (2) (3) (⟨#[]⟩) ([]) ([])])).ns).length) cn33_14c), (.slice ci33_14a (((V.mk 5 0 ⟨#[]⟩ ([sCustom, sHashes, sLength]) ([V.mk (1) (1) (⟨#[]⟩) ([]) ([]), V.mk 5 0 ⟨#[]⟩ ([⟨#[115, 104, 97, 50, 53, 54]⟩]) ([V.mk (3) (0) (⟨#[97, 98]⟩) ([]) ([])]), V.mk (2) (3) (⟨#[]⟩) ([]) ([])])).xs).length) ci33_14c)])) e5 e33 sz33 rfl own_b5_14 (lbr rfl) (all_cons rfl (all_cons rfl (all_cons rfl (all_cons rfl (all_cons rfl all_nil))))) (fun W15 hs own_b5_14 => ?_)
  have own_b5_14 : Own W15 b5_14 [(.int .u8 ((V.mk 5 0 ⟨#[]⟩ ([sCustom, sHashes, sLength]) ([V.mk (1) (1) (⟨#[]⟩) ([]) ([]), V.mk 5 0 ⟨#[]⟩ ([⟨#[115, 104, 97, 50, 53, 54]⟩]) ([V.mk (3) (0) (⟨#[97, 98]⟩) ([]) ([])]), V.mk (2) (3) (⟨#[]⟩) ([]) ([])])).k)), (.int .i64 ((V.mk 5 0 ⟨#[]⟩ ([sCustom, sHashes, sLength]) ([V.mk (1) (1) (⟨#[]⟩) ([]) ([]), V.mk 5 0 ⟨#[]⟩ ([⟨#[115, 104, 97, 50, 53, 54]⟩]) ([V.mk (3) (0) (⟨#[97, 98]⟩) ([]) ([])]), V.mk (2) (3) (⟨#[]⟩) ([]) ([])])).n)), (.string ((V.mk 5 0 ⟨#[]⟩ ([sCustom, sHashes, sLength]) ([V.mk (1) (1) (⟨#[]⟩) ([]) ([]), V.mk 5 0 ⟨#[]⟩ ([⟨#[115, 104, 97, 50, 53, 54]⟩]) ([V.mk (3) (0) (⟨#[97, 98]⟩) ([]) ([])]), V.mk (2) (3) (⟨#[]⟩) ([]) ([])])).t)), (.slice cn33_14a (((V.mk 5 0 ⟨#[]⟩ ([sCustom, sHashes, sLength]) ([V.mk (1) (1) (⟨#[]⟩) ([]) ([]), V.mk 5 0 ⟨#[]⟩ ([⟨#[115, 104, 97, 50, 53, 54]⟩]) ([V.mk (3) (0) (⟨#[97, 98]⟩) ([]) ([])]), V.mk (2) (3) (⟨#[]⟩) ([]) ([])])).ns).length) cn33_14c), (.slice ci33_14a (((V.mk 5 0 ⟨#[]⟩ ([sCustom, sHashes, sLength]) ([V.mk (1) (1) (⟨#[]⟩) ([]) ([]), V.mk 5 0 ⟨#[]⟩ ([⟨#[115, 104, 97, 50, 53, 54]⟩]) ([V.mk (3) (0) (⟨#[97, 98]⟩) ([]) ([])]), V.mk (2) (3) (⟨#[]⟩) ([]) ([])])).xs).length) ci33_14c)] 33 := own_b5_14
  replace own_b2_4 := own_store own_b2_4 hs ne_b2_4_b5_14
  replace own_b1_4 := own_store own_b1_4 hs ne_b1_4_b5_14
  replace own_b3_8 := own_store own_b3_8 hs ne_b3_8_b5_14
  replace own_b4_11 := own_store own_b4_11 hs ne_b4_11_b5_14
  replace D_v24_11_1 := sf_store D_v24_11_1 hs (by simp)
  replace D_v24_11_5 := sf_store D_v24_11_5 hs (by simp)
  replace D_v24_11_6 := sf_store D_v24_11_6 hs (by simp)
  replace D_cn33_14 := sf_store D_cn33_14 hs (by simp)
  replace D_ci33_14 := sf_store D_ci33_14 hs (by simp)
  replace kw := keeps_store kw hs lo_b5_14
  clear hs
  refine tail_nil (hK13 _ _ ?_)
  refine wp_seq_k fun K16 hK16 => ?_
  refine rg mixed y14 zz14 ?_
  refine .i (v := (.agg #[(.int .u8 ((V.mk 5 0 ⟨#[]⟩ ([sCustom, sHashes, sLength]) ([V.mk (1) (1) (⟨#[]⟩) ([]) ([]), V.mk 5 0 ⟨#[]⟩ ([⟨#[115, 104, 97, 50, 53, 54]⟩]) ([V.mk (3) (0) (⟨#[97, 98]⟩) ([]) ([])]), V.mk (2) (3) (⟨#[]⟩) ([]) ([])])).k)), (.int .i64 ((V.mk 5 0 ⟨#[]⟩ ([sCustom, sHashes, sLength]) ([V.mk (1) (1) (⟨#[]⟩) ([]) ([]), V.mk 5 0 ⟨#[]⟩ ([⟨#[115, 104, 97, 50, 53, 54]⟩]) ([V.mk (3) (0) (⟨#[97, 98]⟩) ([]) ([])]), V.mk (2) (3) (⟨#[]⟩) ([]) ([])])).n)), (.string ((V.mk 5 0 ⟨#[]⟩ ([sCustom, sHashes, sLength]) ([V.mk (1) (1) (⟨#[]⟩) ([]) ([]), V.mk 5 0 ⟨#[]⟩ ([⟨#[115, 104, 97, 50, 53, 54]⟩]) ([V.mk (3) (0) (⟨#[97, 98]⟩) ([]) ([])]), V.mk (2) (3) (⟨#[]⟩) ([]) ([])])).t)), (.slice cn33_14a (((V.mk 5 0 ⟨#[]⟩ ([sCustom, sHashes, sLength]) ([V.mk (1) (1) (⟨#[]⟩) ([]) ([]), V.mk 5 0 ⟨#[]⟩ ([⟨#[115, 104, 97, 50, 53, 54]⟩]) ([V.mk (3) (0) (⟨#[97, 98]⟩) ([]) ([])]), V.mk (2) (3) (⟨#[]⟩) ([]) ([])])).ns).length) cn33_14c), (.slice ci33_14a (((V.mk 5 0 ⟨#[]⟩ ([sCustom, sHashes, sLength]) ([V.mk (1) (1) (⟨#[]⟩) ([]) ([]), V.mk 5 0 ⟨#[]⟩ ([⟨#[115, 104, 97, 50, 53, 54]⟩]) ([V.mk (3) (0) (⟨#[97, 98]⟩) ([]) ([])]), V.mk (2) (3) (⟨#[]⟩) ([]) ([])])).xs).length) ci33_14c)])) (loA (hbs rfl e5) own_b5_14 trivial agg33 sz33 rfl rfl) ?_
  refine .op (φ := IsT (IsD (Fr W15) (Rc.d (ofRV ((V.mk 5 0 ⟨#[]⟩ ([sCustom, sHashes, sLength]) ([V.mk (1) (1) (⟨#[]⟩) ([]) ([]), V.mk 5 0 ⟨#[]⟩ ([⟨#[115, 104, 97, 50, 53, 54]⟩]) ([V.mk (3) (0) (⟨#[97, 98]⟩) ([]) ([])]), V.mk (2) (3) (⟨#[]⟩) ([]) ([])])))))) (Is (.int .i64 (ofRE ((V.mk 5 0 ⟨#[]⟩ ([sCustom, sHashes, sLength]) ([V.mk (1) (1) (⟨#[]⟩) ([]) ([]), V.mk 5 0 ⟨#[]⟩ ([⟨#[115, 104, 97, 50, 53, 54]⟩]) ([V.mk (3) (0) (⟨#[97, 98]⟩) ([]) ([])]), V.mk (2) (3) (⟨#[]⟩) ([]) ([])]))))))) (st_t (st_d sub_all) (st_is _)) (sp_call1 (φ1 := IsD (SF w [b5_14, b4_11, b3_8, b2_4, b1_4]) (V.d ((V.mk 5 0 ⟨#[]⟩ ([sCustom, sHashes, sLength]) ([V.mk (1) (1) (⟨#[]⟩) ([]) ([]), V.mk 5 0 ⟨#[]⟩ ([⟨#[115, 104, 97, 50, 53, 54]⟩]) ([V.mk (3) (0) (⟨#[97, 98]⟩) ([]) ([])]), V.mk (2) (3) (⟨#[]⟩) ([]) ([])]))))) ent72 ((hlc rfl).dat (rdV_in (x := (V.mk 5 0 ⟨#[]⟩ ([sCustom, sHashes, sLength]) ([V.mk (1) (1) (⟨#[]⟩) ([]) ([]), V.mk 5 0 ⟨#[]⟩ ([⟨#[115, 104, 97, 50, 53, 54]⟩]) ([V.mk (3) (0) (⟨#[97, 98]⟩) ([]) ([])]), V.mk (2) (3) (⟨#[]⟩) ([]) ([])]))) ht_v33_14 D_cn33_14 D_ci33_14 : Rd W15 (SF w [b5_14, b4_11, b3_8, b2_4, b1_4]) (V.d ((V.mk 5 0 ⟨#[]⟩ ([sCustom, sHashes, sLength]) ([V.mk (1) (1) (⟨#[]⟩) ([]) ([]), V.mk 5 0 ⟨#[]⟩ ([⟨#[115, 104, 97, 50, 53, 54]⟩]) ([V.mk (3) (0) (⟨#[97, 98]⟩) ([]) ([])]), V.mk (2) (3) (⟨#[]⟩) ([]) ([])])))) _) sub_all) (fun g u1 W hk hgk h1 => (recordOf_ok ((V.mk 5 0 ⟨#[]⟩ ([sCustom, sHashes, sLength]) ([V.mk (1) (1) (⟨#[]⟩) ([]) ([]), V.mk 5 0 ⟨#[]⟩ ([⟨#[115, 104, 97, 50, 53, 54]⟩]) ([V.mk (3) (0) (⟨#[97, 98]⟩) ([]) ([])]), V.mk (2) (3) (⟨#[]⟩) ([]) ([])]))) (Nat.le_of_ble_eq_true (by kernel_rfl)) W _ _ (fun b o h => h.1.2.1) h1).mono (fun _ _ ⟨v, h1, h2, r1, h3, h4⟩ => ⟨v, h1, h2, r1, _, h3, fresh_d hk hgk h4, rfl⟩))) ?_
  refine .op (φ := _) (st_t (st_d sub_all) (st_is _)) (sp_move (hlc rfl)) ?_
  refine .da (X := Fr W15) (e := Rc.d (ofRV ((V.mk 5 0 ⟨#[]⟩ ([sCustom, sHashes, sLength]) ([V.mk (1) (1) (⟨#[]⟩) ([]) ([]), V.mk 5 0 ⟨#[]⟩ ([⟨#[115, 104, 97, 50, 53, 54]⟩]) ([V.mk (3) (0) (⟨#[97, 98]⟩) ([]) ([])]), V.mk (2) (3) (⟨#[]⟩) ([]) ([])]))))) (sp_ext2 (hlc rfl) rfl) ?_
  refine .i (v := (.int .i64 (ofRE ((V.mk 5 0 ⟨#[]⟩ ([sCustom, sHashes, sLength]) ([V.mk (1) (1) (⟨#[]⟩) ([]) ([]), V.mk 5 0 ⟨#[]⟩ ([⟨#[115, 104, 97, 50, 53, 54]⟩]) ([V.mk (3) (0) (⟨#[97, 98]⟩) ([]) ([])]), V.mk (2) (3) (⟨#[]⟩) ([]) ([])])))))) (sp_ext2' (hlc rfl) rfl) ?_
  refine .alloc z87 ?_
  refine .done ⟨by kernel_rfl, fun a17 g W17 y17 zz17 hk hg hV hR hP => ?_⟩
  obtain ⟨⟨b6_17, e6, hb6, own_b6_17⟩, e38, e37, -, -, -, -⟩ := hV
  have lo_b6_17 : w.heap.size ≤ b6_17 := Nat.le_trans kw.size (hg.lo _ _ hb6)
  have ne_b2_4_b6_17 : b2_4 ≠ b6_17 := Nat.ne_of_lt (Nat.lt_of_lt_of_le own_b2_4.lt (hg.lo _ _ hb6))
  have ne_b1_4_b6_17 : b1_4 ≠ b6_17 := Nat.ne_of_lt (Nat.lt_of_lt_of_le own_b1_4.lt (hg.lo _ _ hb6))
  have ne_b3_8_b6_17 : b3_8 ≠ b6_17 := Nat.ne_of_lt (Nat.lt_of_lt_of_le own_b3_8.lt (hg.lo _ _ hb6))
  have ne_b4_11_b6_17 : b4_11 ≠ b6_17 := Nat.ne_of_lt (Nat.lt_of_lt_of_le own_b4_11.lt (hg.lo _ _ hb6))
  have ne_b5_14_b6_17 : b5_14 ≠ b6_17 := Nat.ne_of_lt (Nat.lt_of_lt_of_le own_b5_14.lt (hg.lo _ _ hb6))
  have own_b6_17 : Own W17 b6_17 [(.int .i64 (0)), (.slice none 0 0), (.int .u8 (0)), (.int .i64 (0)), (.string (⟨#[]⟩)), (.slice none 0 0), (.slice none 0 0)] 87 := own_b6_17
  replace e1 := (hR 1 rfl).trans e1
  replace e4 := (hR 4 rfl).trans e4
  replace e5 := (hR 5 rfl).trans e5
  replace D_v24_11_1 := sf_more D_v24_11_1 hk [b6_17] (in_cons (hg.lo _ _ hb6) in_nil)
  replace D_v24_11_5 := sf_more D_v24_11_5 hk [b6_17] (in_cons (hg.lo _ _ hb6) in_nil)
  replace D_v24_11_6 := sf_more D_v24_11_6 hk [b6_17] (in_cons (hg.lo _ _ hb6) in_nil)
  replace D_cn33_14 := sf_more D_cn33_14 hk [b6_17] (in_cons (hg.lo _ _ hb6) in_nil)
  replace D_ci33_14 := sf_more D_ci33_14 hk [b6_17] (in_cons (hg.lo _ _ hb6) in_nil)
  obtain ⟨v37_17, ev⟩ : ∃ v, sl a17 37 = v := ⟨_, rfl⟩
  rw [ev] at e37
  have D_v37_17 : Rd W17 (SF w [b6_17, b5_14, b4_11, b3_8, b2_4, b1_4]) (Rc.d (ofRV ((V.mk 5 0 ⟨#[]⟩ ([sCustom, sHashes, sLength]) ([V.mk (1) (1) (⟨#[]⟩) ([]) ([]), V.mk 5 0 ⟨#[]⟩ ([⟨#[115, 104, 97, 50, 53, 54]⟩]) ([V.mk (3) (0) (⟨#[97, 98]⟩) ([]) ([])]), V.mk (2) (3) (⟨#[]⟩) ([]) ([])]))))) v37_17 := fr_end (M := [b5_14, b4_11, b3_8, b2_4, b1_4]) e37 kw [b6_17] (in_cons ⟨_, hb6⟩ in_nil) (in_cons own_b5_14.lt (in_cons own_b4_11.lt (in_cons own_b3_8.lt (in_cons own_b2_4.lt (in_cons own_b1_4.lt in_nil)))))
  replace e37 := ev; clear ev
  obtain ⟨v37_17_1a, v37_17_1c, v37_17_5a, v37_17_5c, v37_17_6a, v37_17_6c, ev, hb_v37_17_4, D_v37_17_1, D_v37_17_5, D_v37_17_6⟩ := rdRc_out D_v37_17
  subst ev; clear D_v37_17
  replace e38 := e38.q
  replace own_b2_4 := own_b2_4.ext hk
  replace own_b1_4 := own_b1_4.ext hk
  replace own_b3_8 := own_b3_8.ext hk
  replace own_b4_11 := own_b4_11.ext hk
  replace own_b5_14 := own_b5_14.ext hk
  replace kw := kw.x hk
  clear hR hk hg hP hb6
  refine tail_store (b := b6_17) (o := 0) (v := (.agg #[(.int .i64 ((ofRV ((V.mk 5 0 ⟨#[]⟩ ([sCustom, sHashes, sLength]) ([V.mk (1) (1) (⟨#[]⟩) ([]) ([]), V.mk 5 0 ⟨#[]⟩ ([⟨#[115, 104, 97, 50, 53, 54]⟩]) ([V.mk (3) (0) (⟨#[97, 98]⟩) ([]) ([])]), V.mk (2) (3) (⟨#[]⟩) ([]) ([])])))).ln)), (.slice v37_17_1a (((ofRV ((V.mk 5 0 ⟨#[]⟩ ([sCustom, sHashes, sLength]) ([V.mk (1) (1) (⟨#[]⟩) ([]) ([]), V.mk 5 0 ⟨#[]⟩ ([⟨#[115, 104, 97, 50, 53, 54]⟩]) ([V.mk (3) (0) (⟨#[97, 98]⟩) ([]) ([])]), V.mk (2) (3) (⟨#[]⟩) ([]) ([])])))).hs).length) v37_17_1c), (.int .u8 ((ofRV ((V.mk 5 0 ⟨#[]⟩ ([sCustom, sHashes, sLength]) ([V.mk (1) (1) (⟨#[]⟩) ([]) ([]), V.mk 5 0 ⟨#[]⟩ ([⟨#[115, 104, 97, 50, 53, 54]⟩]) ([V.mk (3) (0) (⟨#[97, 98]⟩) ([]) ([])]), V.mk (2) (3) (⟨#[]⟩) ([]) ([])])))).cu.k)), (.int .i64 ((ofRV ((V.mk 5 0 ⟨#[]⟩ ([sCustom, sHashes, sLength]) ([V.mk (1) (1) (⟨#[]⟩) ([]) ([]), V.mk 5 0 ⟨#[]⟩ ([⟨#[115, 104, 97, 50, 53, 54]⟩]) ([V.mk (3) (0) (⟨#[97, 98]⟩) ([]) ([])]), V.mk (2) (3) (⟨#[]⟩) ([]) ([])])))).cu.n)), (.string ((ofRV ((V.mk 5 0 ⟨#[]⟩ ([sCustom, sHashes, sLength]) ([V.mk (1) (1) (⟨#[]⟩) ([]) ([]), V.mk 5 0 ⟨#[]⟩ ([⟨#[115, 104, 97, 50, 53, 54]⟩]) ([V.mk (3) (0) (⟨#[97, 98]⟩) ([]) ([])]), V.mk (2) (3) (⟨#[]⟩) ([]) ([])])))).cu.t)), (.slice v37_17_5a (((ofRV ((V.mk 5 0 ⟨#[]⟩ ([sCustom, sHashes, sLength]) ([V.mk (1) (1) (⟨#[]⟩) ([]) ([]), V.mk 5 0 ⟨#[]⟩ ([⟨#[115, 104, 97, 50, 53, 54]⟩]) ([V.mk (3) (0) (⟨#[97, 98]⟩) ([]) ([])]), V.mk (2) (3) (⟨#[]⟩) ([]) ([])])))).cu.ns).length) v37_17_5c), (.slice v37_17_6a (((ofRV ((V.mk 5 0 ⟨#[]⟩ ([sCustom, sHashes, sLength]) ([V.mk (1) (1) (⟨#[]⟩) ([]) ([]), V.mk 5 0 ⟨#[]⟩ ([⟨#[115, 104, 97, 50, 53, 54]⟩]) ([V.mk (3) (0) (⟨#[97, 98]⟩) ([]) ([])]), V.mk (2) (3) (⟨#[]⟩) ([]) ([])])))).cu.xs).length) v37_17_6c)])) e6 e37 sz87 rfl own_b6_17 (lbr rfl) (all_cons rfl (all_cons rfl (all_cons rfl (all_cons rfl (all_cons rfl (all_cons rfl (all_cons rfl all_nil))))))) (fun W18 hs own_b6_17 => ?_)
  have own_b6_17 : Own W18 b6_17 [(.int .i64 ((ofRV ((V.mk 5 0 ⟨#[]⟩ ([sCustom, sHashes, sLength]) ([V.mk (1) (1) (⟨#[]⟩) ([]) ([]), V.mk 5 0 ⟨#[]⟩ ([⟨#[115, 104, 97, 50, 53, 54]⟩]) ([V.mk (3) (0) (⟨#[97, 98]⟩) ([]) ([])]), V.mk (2) (3) (⟨#[]⟩) ([]) ([])])))).ln)), (.slice v37_17_1a (((ofRV ((V.mk 5 0 ⟨#[]⟩ ([sCustom, sHashes, sLength]) ([V.mk (1) (1) (⟨#[]⟩) ([]) ([]), V.mk 5 0 ⟨#[]⟩ ([⟨#[115, 104, 97, 50, 53, 54]⟩]) ([V.mk (3) (0) (⟨#[97, 98]⟩) ([]) ([])]), V.mk (2) (3) (⟨#[]⟩) ([]) ([])])))).hs).length) v37_17_1c), (.int .u8 ((ofRV ((V.mk 5 0 ⟨#[]⟩ ([sCustom, sHashes, sLength]) ([V.mk (1) (1) (⟨#[]⟩) ([]) ([]), V.mk 5 0 ⟨#[]⟩ ([⟨#[115, 104, 97, 50, 53, 54]⟩]) ([V.mk (3) (0) (⟨#[97, 98]⟩) ([]) ([])]), V.mk (2) (3) (⟨#[]⟩) ([]) ([])])))).cu.k)), (.int .i64 ((ofRV ((V.mk 5 0 ⟨#[]⟩ ([sCustom, sHashes, sLength]) ([V.mk (1) (1) (⟨#[]⟩) ([]) ([]), V.mk 5 0 ⟨#[]⟩ ([⟨#[115, 104, 97, 50, 53, 54]⟩]) ([V.mk (3) (0) (⟨#[97, 98]⟩) ([]) ([])]), V.mk (2) (3) (⟨#[]⟩) ([]) ([])])))).cu.n)), (.string ((ofRV ((V.mk 5 0 ⟨#[]⟩ ([sCustom, sHashes, sLength]) ([V.mk (1) (1) (⟨#[]⟩) ([]) ([]), V.mk 5 0 ⟨#[]⟩ ([⟨#[115, 104, 97, 50, 53, 54]⟩]) ([V.mk (3) (0) (⟨#[97, 98]⟩) ([]) ([])]), V.mk (2) (3) (⟨#[]⟩) ([]) ([])])))).cu.t)), (.slice v37_17_5a (((ofRV ((V.mk 5 0 ⟨#[]⟩ ([sCustom, sHashes, sLength]) ([V.mk (1) (1) (⟨#[]⟩) ([]) ([]), V.mk 5 0 ⟨#[]⟩ ([⟨#[115, 104, 97, 50, 53, 54]⟩]) ([V.mk (3) (0) (⟨#[97, 98]⟩) ([]) ([])]), V.mk (2) (3) (⟨#[]⟩) ([]) ([])])))).cu.ns).length) v37_17_5c), (.slice v37_17_6a (((ofRV ((V.mk 5 0 ⟨#[]⟩ ([sCustom, sHashes, sLength]) ([V.mk (1) (1) (⟨#[]⟩) ([]) ([]), V.mk 5 0 ⟨#[]⟩ ([⟨#[115, 104, 97, 50, 53, 54]⟩]) ([V.mk (3) (0) (⟨#[97, 98]⟩) ([]) ([])]), V.mk (2) (3) (⟨#[]⟩) ([]) ([])])))).cu.xs).length) v37_17_6c)] 87 := own_b6_17
  replace own_b2_4 := own_store own_b2_4 hs ne_b2_4_b6_17
  replace own_b1_4 := own_store own_b1_4 hs ne_b1_4_b6_17
  replace own_b3_8 := own_store own_b3_8 hs ne_b3_8_b6_17
  replace own_b4_11 := own_store own_b4_11 hs ne_b4_11_b6_17
  replace own_b5_14 := own_store own_b5_14 hs ne_b5_14_b6_17
  replace D_v24_11_1 := sf_store D_v24_11_1 hs (by simp)
  replace D_v24_11_5 := sf_store D_v24_11_5 hs (by simp)
  replace D_v24_11_6 := sf_store D_v24_11_6 hs (by simp)
  replace D_cn33_14 := sf_store D_cn33_14 hs (by simp)
  replace D_ci33_14 := sf_store D_ci33_14 hs (by simp)
  replace D_v37_17_1 := sf_store D_v37_17_1 hs (by simp)
  replace D_v37_17_5 := sf_store D_v37_17_5 hs (by simp)
  replace D_v37_17_6 := sf_store D_v37_17_6 hs (by simp)
  replace kw := keeps_store kw hs lo_b6_17
  clear hs
  refine tail_assign (v := (.int .i64 (ofRE ((V.mk 5 0 ⟨#[]⟩ ([sCustom, sHashes, sLength]) ([V.mk (1) (1) (⟨#[]⟩) ([]) ([]), V.mk 5 0 ⟨#[]⟩ ([⟨#[115, 104, 97, 50, 53, 54]⟩]) ([V.mk (3) (0) (⟨#[97, 98]⟩) ([]) ([])]), V.mk (2) (3) (⟨#[]⟩) ([]) ([])])))))) e38 (by rw [y17]; exact Nat.le_of_ble_eq_true rfl) (fun a19 y19 zz19 e7 hr => ?_)
  replace y19 := y19.trans y17; replace zz19 := zz19.trans zz17
  replace e1 := (hr 1 (by decide)).trans e1
  replace e4 := (hr 4 (by decide)).trans e4
  replace e5 := (hr 5 (by decide)).trans e5
  replace e6 := (hr 6 (by decide)).trans e6
  replace e37 := (hr 37 (by decide)).trans e37
  replace e38 := (hr 38 (by decide)).trans e38
  clear hr
  refine tail_nil (hK16 _ _ ?_)
  refine wp_seq_k fun K20 hK20 => ?_
  refine rg mixed y19 zz19 ?_
  refine .i (v := (.agg #[(.int .i64 ((ofRV ((V.mk 5 0 ⟨#[]⟩ ([sCustom, sHashes, sLength]) ([V.mk (1) (1) (⟨#[]⟩) ([]) ([]), V.mk 5 0 ⟨#[]⟩ ([⟨#[115, 104, 97, 50, 53, 54]⟩]) ([V.mk (3) (0) (⟨#[97, 98]⟩) ([]) ([])]), V.mk (2) (3) (⟨#[]⟩) ([]) ([])])))).ln)), (.slice v37_17_1a (((ofRV ((V.mk 5 0 ⟨#[]⟩ ([sCustom, sHashes, sLength]) ([V.mk (1) (1) (⟨#[]⟩) ([]) ([]), V.mk 5 0 ⟨#[]⟩ ([⟨#[115, 104, 97, 50, 53, 54]⟩]) ([V.mk (3) (0) (⟨#[97, 98]⟩) ([]) ([])]), V.mk (2) (3) (⟨#[]⟩) ([]) ([])])))).hs).length) v37_17_1c), (.int .u8 ((ofRV ((V.mk 5 0 ⟨#[]⟩ ([sCustom, sHashes, sLength]) ([V.mk (1) (1) (⟨#[]⟩) ([]) ([]), V.mk 5 0 ⟨#[]⟩ ([⟨#[115, 104, 97, 50, 53, 54]⟩]) ([V.mk (3) (0) (⟨#[97, 98]⟩) ([]) ([])]), V.mk (2) (3) (⟨#[]⟩) ([]) ([])])))).cu.k)), (.int .i64 ((ofRV ((V.mk 5 0 ⟨#[]⟩ ([sCustom, sHashes, sLength]) ([V.mk (1) (1) (⟨#[]⟩) ([]) ([]), V.mk 5 0 ⟨#[]⟩ ([⟨#[115, 104, 97, 50, 53, 54]⟩]) ([V.mk (3) (0) (⟨#[97, 98]⟩) ([]) ([])]), V.mk (2) (3) (⟨#[]⟩) ([]) ([])])))).cu.n)), (.string ((ofRV ((V.mk 5 0 ⟨#[]⟩ ([sCustom, sHashes, sLength]) ([V.mk (1) (1) (⟨#[]⟩) ([]) ([]), V.mk 5 0 ⟨#[]⟩ ([⟨#[115, 104, 97, 50, 53, 54]⟩]) ([V.mk (3) (0) (⟨#[97, 98]⟩) ([]) ([])]), V.mk (2) (3) (⟨#[]⟩) ([]) ([])])))).cu.t)), (.slice v37_17_5a (((ofRV ((V.mk 5 0 ⟨#[]⟩ ([sCustom, sHashes, sLength]) ([V.mk (1) (1) (⟨#[]⟩) ([]) ([]), V.mk 5 0 ⟨#[]⟩ ([⟨#[115, 104, 97, 50, 53, 54]⟩]) ([V.mk (3) (0) (⟨#[97, 98]⟩) ([]) ([])]), V.mk (2) (3) (⟨#[]⟩) ([]) ([])])))).cu.ns).length) v37_17_5c), (.slice v37_17_6a (((ofRV ((V.mk 5 0 ⟨#[]⟩ ([sCustom, sHashes, sLength]) ([V.mk (1) (1) (⟨#[]⟩) ([]) ([]), V.mk 5 0 ⟨#[]⟩ ([⟨#[115, 104, 97, 50, 53, 54]⟩]) ([V.mk (3) (0) (⟨#[97, 98]⟩) ([]) ([])]), V.mk (2) (3) (⟨#[]⟩) ([]) ([])])))).cu.xs).length) v37_17_6c)])) (loA (hbs rfl e6) own_b6_17 trivial agg87 sz87 rfl rfl) ?_
  refine .op (φ := IsT (IsD (Fr W18) (V.d (recV (ofRV ((V.mk 5 0 ⟨#[]⟩ ([sCustom, sHashes, sLength]) ([V.mk (1) (1) (⟨#[]⟩) ([]) ([]), V.mk 5 0 ⟨#[]⟩ ([⟨#[115, 104, 97, 50, 53, 54]⟩]) ([V.mk (3) (0) (⟨#[97, 98]⟩) ([]) ([])]), V.mk (2) (3) (⟨#[]⟩) ([]) ([])]))))))) (Is (.int .i64 (recE (ofRV ((V.mk 5 0 ⟨#[]⟩ ([sCustom, sHashes, sLength]) ([V.mk (1) (1) (⟨#[]⟩) ([]) ([]), V.mk 5 0 ⟨#[]⟩ ([⟨#[115, 104, 97, 50, 53, 54]⟩]) ([V.mk (3) (0) (⟨#[97, 98]⟩) ([]) ([])]), V.mk (2) (3) (⟨#[]⟩) ([]) ([])])))))))) (st_t (st_d sub_all) (st_is _)) (sp_call1 (φ1 := IsD (SF w [b6_17, b5_14, b4_11, b3_8, b2_4, b1_4]) (Rc.d ((ofRV ((V.mk 5 0 ⟨#[]⟩ ([sCustom, sHashes, sLength]) ([V.mk (1) (1) (⟨#[]⟩) ([]) ([]), V.mk 5 0 ⟨#[]⟩ ([⟨#[115, 104, 97, 50, 53, 54]⟩]) ([V.mk (3) (0) (⟨#[97, 98]⟩) ([]) ([])]), V.mk (2) (3) (⟨#[]⟩) ([]) ([])]))))))) ent128 ((hlc rfl).dat (rdRc_mk D_v37_17_1 (rdV_in (x := (ofRV ((V.mk 5 0 ⟨#[]⟩ ([sCustom, sHashes, sLength]) ([V.mk (1) (1) (⟨#[]⟩) ([]) ([]), V.mk 5 0 ⟨#[]⟩ ([⟨#[115, 104, 97, 50, 53, 54]⟩]) ([V.mk (3) (0) (⟨#[97, 98]⟩) ([]) ([])]), V.mk (2) (3) (⟨#[]⟩) ([]) ([])])))).cu) hb_v37_17_4 D_v37_17_5 D_v37_17_6 : Rd W18 (SF w [b6_17, b5_14, b4_11, b3_8, b2_4, b1_4]) (V.d ((ofRV ((V.mk 5 0 ⟨#[]⟩ ([sCustom, sHashes, sLength]) ([V.mk (1) (1) (⟨#[]⟩) ([]) ([]), V.mk 5 0 ⟨#[]⟩ ([⟨#[115, 104, 97, 50, 53, 54]⟩]) ([V.mk (3) (0) (⟨#[97, 98]⟩) ([]) ([])]), V.mk (2) (3) (⟨#[]⟩) ([]) ([])])))).cu)) _) : Rd W18 (SF w [b6_17, b5_14, b4_11, b3_8, b2_4, b1_4]) (Rc.d ((ofRV ((V.mk 5 0 ⟨#[]⟩ ([sCustom, sHashes, sLength]) ([V.mk (1) (1) (⟨#[]⟩) ([]) ([]), V.mk 5 0 ⟨#[]⟩ ([⟨#[115, 104, 97, 50, 53, 54]⟩]) ([V.mk (3) (0) (⟨#[97, 98]⟩) ([]) ([])]), V.mk (2) (3) (⟨#[]⟩) ([]) ([])])))))) _) sub_all) (fun g u1 W hk hgk h1 => (ValueR_ok ((ofRV ((V.mk 5 0 ⟨#[]⟩ ([sCustom, sHashes, sLength]) ([V.mk (1) (1) (⟨#[]⟩) ([]) ([]), V.mk 5 0 ⟨#[]⟩ ([⟨#[115, 104, 97, 50, 53, 54]⟩]) ([V.mk (3) (0) (⟨#[97, 98]⟩) ([]) ([])]), V.mk (2) (3) (⟨#[]⟩) ([]) ([])]))))) (Nat.le_of_ble_eq_true (by kernel_rfl)) W _ _ (fun b o h => h.1.2.1) h1).mono (fun _ _ ⟨v, h1, h2, r1, h3, h4⟩ => ⟨v, h1, h2, r1, _, h3, fresh_d hk hgk h4, rfl⟩))) ?_
  refine .op (φ := _) (st_t (st_d sub_all) (st_is _)) (sp_move (hlc rfl)) ?_
  refine .da (X := Fr W18) (e := V.d (recV (ofRV ((V.mk 5 0 ⟨#[]⟩ ([sCustom, sHashes, sLength]) ([V.mk (1) (1) (⟨#[]⟩) ([]) ([]), V.mk 5 0 ⟨#[]⟩ ([⟨#[115, 104, 97, 50, 53, 54]⟩]) ([V.mk (3) (0) (⟨#[97, 98]⟩) ([]) ([])]), V.mk (2) (3) (⟨#[]⟩) ([]) ([])])))))) (sp_ext2 (hlc rfl) rfl) ?_
  refine .i (v := (.int .i64 (recE (ofRV ((V.mk 5 0 ⟨#[]⟩ ([sCustom, sHashes, sLength]) ([V.mk (1) (1) (⟨#[]⟩) ([]) ([]), V.mk 5 0 ⟨#[]⟩ ([⟨#[115, 104, 97, 50, 53, 54]⟩]) ([V.mk (3) (0) (⟨#[97, 98]⟩) ([]) ([])]), V.mk (2) (3) (⟨#[]⟩) ([]) ([])]))))))) (sp_ext2' (hlc rfl) rfl) ?_
  refine .alloc z33 ?_
  refine .done ⟨by kernel_rfl, fun a21 g W21 y21 zz21 hk hg hV hR hP => ?_⟩
  obtain ⟨⟨b8_21, e8, hb8, own_b8_21⟩, e43, e42, -, -, -, -⟩ := hV
  have lo_b8_21 : w.heap.size ≤ b8_21 := Nat.le_trans kw.size (hg.lo _ _ hb8)
  have ne_b2_4_b8_21 : b2_4 ≠ b8_21 := Nat.ne_of_lt (Nat.lt_of_lt_of_le own_b2_4.lt (hg.lo _ _ hb8))
  have ne_b1_4_b8_21 : b1_4 ≠ b8_21 := Nat.ne_of_lt (Nat.lt_of_lt_of_le own_b1_4.lt (hg.lo _ _ hb8))
  have ne_b3_8_b8_21 : b3_8 ≠ b8_21 := Nat.ne_of_lt (Nat.lt_of_lt_of_le own_b3_8.lt (hg.lo _ _ hb8))
  have ne_b4_11_b8_21 : b4_11 ≠ b8_21 := Nat.ne_of_lt (Nat.lt_of_lt_of_le own_b4_11.lt (hg.lo _ _ hb8))
  have ne_b5_14_b8_21 : b5_14 ≠ b8_21 := Nat.ne_of_lt (Nat.lt_of_lt_of_le own_b5_14.lt (hg.lo _ _ hb8))
  have ne_b6_17_b8_21 : b6_17 ≠ b8_21 := Nat.ne_of_lt (Nat.lt_of_lt_of_le own_b6_17.lt (hg.lo _ _ hb8))
  have own_b8_21 : Own W21 b8_21 [(.int .u8 (0)), (.int .i64 (0)), (.string (⟨#[]⟩)), (.slice none 0 0), (.slice none 0 0)] 33 := own_b8_21
  replace e1 := (hR 1 rfl).trans e1
  replace e4 := (hR 4 rfl).trans e4
  replace e5 := (hR 5 rfl).trans e5
  replace e6 := (hR 6 rfl).trans e6
  replace e7 := (hR 7 rfl).trans e7
  replace D_v24_11_1 := sf_more D_v24_11_1 hk [b8_21] (in_cons (hg.lo _ _ hb8) in_nil)
  replace D_v24_11_5 := sf_more D_v24_11_5 hk [b8_21] (in_cons (hg.lo _ _ hb8) in_nil)
  replace D_v24_11_6 := sf_more D_v24_11_6 hk [b8_21] (in_cons (hg.lo _ _ hb8) in_nil)
  replace D_cn33_14 := sf_more D_cn33_14 hk [b8_21] (in_cons (hg.lo _ _ hb8) in_nil)
  replace D_ci33_14 := sf_more D_ci33_14 hk [b8_21] (in_cons (hg.lo _ _ hb8) in_nil)
  replace D_v37_17_1 := sf_more D_v37_17_1 hk [b8_21] (in_cons (hg.lo _ _ hb8) in_nil)
  replace D_v37_17_5 := sf_more D_v37_17_5 hk [b8_21] (in_cons (hg.lo _ _ hb8) in_nil)
  replace D_v37_17_6 := sf_more D_v37_17_6 hk [b8_21] (in_cons (hg.lo _ _ hb8) in_nil)
  obtain ⟨v42_21, ev⟩ : ∃ v, sl a21 42 = v := ⟨_, rfl⟩
  rw [ev] at e42
  have D_v42_21 : Rd W21 (SF w [b8_21, b6_17, b5_14, b4_11, b3_8, b2_4, b1_4]) (V.d (recV (ofRV ((V.mk 5 0 ⟨#[]⟩ ([sCustom, sHashes, sLength]) ([V.mk (1) (1) (⟨#[]⟩) ([]) ([]), V.mk 5 0 ⟨#[]⟩ ([⟨#[115, 104, 97, 50, 53, 54]⟩]) ([V.mk (3) (0) (⟨#[97, 98]⟩) ([]) ([])]), V.mk (2) (3) (⟨#[]⟩) ([]) ([])])))))) v42_21 := fr_end (M := [b6_17, b5_14, b4_11, b3_8, b2_4, b1_4]) e42 kw [b8_21] (in_cons ⟨_, hb8⟩ in_nil) (in_cons own_b6_17.lt (in_cons own_b5_14.lt (in_cons own_b4_11.lt (in_cons own_b3_8.lt (in_cons own_b2_4.lt (in_cons own_b1_4.lt in_nil))))))
  replace e42 := ev; clear ev
  obtain ⟨cn42_21a, cn42_21c, ci42_21a, ci42_21c, ev, ht_v42_21, D_cn42_21, D_ci42_21⟩ := rdV_out D_v42_21
  subst ev; clear D_v42_21
  replace e43 := e43.q
  replace own_b2_4 := own_b2_4.ext hk
  replace own_b1_4 := own_b1_4.ext hk
  replace own_b3_8 := own_b3_8.ext hk
  replace own_b4_11 := own_b4_11.ext hk
  replace own_b5_14 := own_b5_14.ext hk
  replace own_b6_17 := own_b6_17.ext hk
  replace kw := kw.x hk
  clear hR hk hg hP hb8
  refine tail_store (b := b8_21) (o := 0) (v := (.agg #[(.int .u8 ((recV (ofRV ((V.mk 5 0 ⟨#[]⟩ ([sCustom, sHashes, sLength]) ([V.mk (1) (1) (⟨#[]⟩) ([]) ([]), V.mk 5 0 ⟨#[]⟩ ([⟨#[115, 104, 97, 50, 53, 54]⟩]) ([V.mk (3) (0) (⟨#[97, 98]⟩) ([]) ([])]), V.mk (2) (3) (⟨#[]⟩) ([]) ([])]))))).k)), (.int .i64 ((recV (ofRV ((V.mk 5 0 ⟨#[]⟩ ([sCustom, sHashes, sLength]) ([V.mk (1) (1) (⟨#[]⟩) ([]) ([]), V.mk 5 0 ⟨#[]⟩ ([⟨#[115, 104, 97, 50, 53, 54]⟩]) ([V.mk (3) (0) (⟨#[97, 98]⟩) ([]) ([])]), V.mk (2) (3) (⟨#[]⟩) ([]) ([])]))))).n)), (.string ((recV (ofRV ((V.mk 5 0 ⟨#[]⟩ ([sCustom, sHashes, sLength]) ([V.mk (1) (1) (⟨#[]⟩) ([]) ([]), V.mk 5 0 ⟨#[]⟩ ([⟨#[115, 104, 97, 50, 53, 54]⟩]) ([V.mk (3) (0) (⟨#[97, 98]⟩) ([]) ([])]), V.mk (2) (3) (⟨#[]⟩) ([]) ([])]))))).t)), (.slice cn42_21a (((recV (ofRV ((V.mk 5 0 ⟨#[]⟩ ([sCustom, sHashes, sLength]) ([V.mk (1) (1) (⟨#[]⟩) ([]) ([]), V.mk 5 0 ⟨#[]⟩ ([⟨#[115, 104, 97, 50, 53, 54]⟩]) ([V.mk (3) (0) (⟨#[97, 98]⟩) ([]) ([])]), V.mk (2) (3) (⟨#[]⟩) ([]) ([])]))))).ns).length) cn42_21c), (.slice ci42_21a (((recV (ofRV ((V.mk 5 0 ⟨#[]⟩ ([sCustom, sHashes, sLength]) ([V.mk (1) (1) (⟨#[]⟩) ([]) ([]), V.mk 5 0 ⟨#[]⟩ ([⟨#[115, 104, 97, 50, 53, 54]⟩]) ([V.mk (3) (0) (⟨#[97, 98]⟩) ([]) ([])]), V.mk (2) (3) (⟨#[]⟩) ([]) ([])]))))).xs).length) ci42_21c)])) e8 e42 sz33 rfl own_b8_21 (lbr rfl) (all_cons rfl (all_cons rfl (all_cons rfl (all_cons rfl (all_cons rfl all_nil))))) (fun W22 hs own_b8_21 => ?_)
  have own_b8_21 : Own W22 b8_21 [(.int .u8 ((recV (ofRV ((V.mk 5 0 ⟨#[]⟩ ([sCustom, sHashes, sLength]) ([V.mk (1) (1) (⟨#[]⟩) ([]) ([]), V.mk 5 0 ⟨#[]⟩ ([⟨#[115, 104, 97, 50, 53, 54]⟩]) ([V.mk (3) (0) (⟨#[97, 98]⟩) ([]) ([])]), V.mk (2) (3) (⟨#[]⟩) ([]) ([])]))))).k)), (.int .i64 ((recV (ofRV ((V.mk 5 0 ⟨#[]⟩ ([sCustom, sHashes, sLength]) ([V.mk (1) (1) (⟨#[]⟩) ([]) ([]), V.mk 5 0 ⟨#[]⟩ ([⟨#[115, 104, 97, 50, 53, 54]⟩]) ([V.mk (3) (0) (⟨#[97, 98]⟩) ([]) ([])]), V.mk (2) (3) (⟨#[]⟩) ([]) ([])]))))).n)), (.string ((recV (ofRV ((V.mk 5 0 ⟨#[]⟩ ([sCustom, sHashes, sLength]) ([V.mk (1) (1) (⟨#[]⟩) ([]) ([]), V.mk 5 0 ⟨#[]⟩ ([⟨#[115, 104, 97, 50, 53, 54]⟩]) ([V.mk (3) (0) (⟨#[97, 98]⟩) ([]) ([])]), V.mk (2) (3) (⟨#[]⟩) ([]) ([])]))))).t)), (.slice cn42_21a (((recV (ofRV ((V.mk 5 0 ⟨#[]⟩ ([sCustom, sHashes, sLength]) ([V.mk (1) (1) (⟨#[]⟩) ([]) ([]), V.mk 5 0 ⟨#[]⟩ ([⟨#[115, 104, 97, 50, 53, 54]⟩]) ([V.mk (3) (0) (⟨#[97, 98]⟩) ([]) ([])]), V.mk (2) (3) (⟨#[]⟩) ([]) ([])]))))).ns).length) cn42_21c), (.slice ci42_21a (((recV (ofRV ((V.mk 5 0 ⟨#[]⟩ ([sCustom, sHashes, sLength]) ([V.mk (1) (1) (⟨#[]⟩) ([]) ([]), V.mk 5 0 ⟨#[]⟩ ([⟨#[115, 104, 97, 50, 53, 54]⟩]) ([V.mk (3) (0) (⟨#[97, 98]⟩) ([]) ([])]), V.mk (2) (3) (⟨#[]⟩) ([]) ([])]))))).xs).length) ci42_21c)] 33 := own_b8_21
  replace own_b2_4 := own_store own_b2_4 hs ne_b2_4_b8_21
  replace own_b1_4 := own_store own_b1_4 hs ne_b1_4_b8_21
  replace own_b3_8 := own_store own_b3_8 hs ne_b3_8_b8_21
  replace own_b4_11 := own_store own_b4_11 hs ne_b4_11_b8_21
  replace own_b5_14 := own_store own_b5_14 hs ne_b5_14_b8_21
  replace own_b6_17 := own_store own_b6_17 hs ne_b6_17_b8_21
  replace D_v24_11_1 := sf_store D_v24_11_1 hs (by simp)
  replace D_v24_11_5 := sf_store D_v24_11_5 hs (by simp)
  replace D_v24_11_6 := sf_store D_v24_11_6 hs (by simp)
  replace D_cn33_14 := sf_store D_cn33_14 hs (by simp)
  replace D_ci33_14 := sf_store D_ci33_14 hs (by simp)
  replace D_v37_17_1 := sf_store D_v37_17_1 hs (by simp)
  replace D_v37_17_5 := sf_store D_v37_17_5 hs (by simp)
  replace D_v37_17_6 := sf_store D_v37_17_6 hs (by simp)
  replace D_cn42_21 := sf_store D_cn42_21 hs (by simp)
  replace D_ci42_21 := sf_store D_ci42_21 hs (by simp)
  replace kw := keeps_store kw hs lo_b8_21
  clear hs
  refine tail_assign (v := (.int .i64 (recE (ofRV ((V.mk 5 0 ⟨#[]⟩ ([sCustom, sHashes, sLength]) ([V.mk (1) (1) (⟨#[]⟩) ([]) ([]), V.mk 5 0 ⟨#[]⟩ ([⟨#[115, 104, 97, 50, 53, 54]⟩]) ([V.mk (3) (0) (⟨#[97, 98]⟩) ([]) ([])]), V.mk (2) (3) (⟨#[]⟩) ([]) ([])]))))))) e43 (by rw [y21]; exact Nat.le_of_ble_eq_true rfl) (fun a23 y23 zz23 e9 hr => ?_)
  replace y23 := y23.trans y21; replace zz23 := zz23.trans zz21
  replace e1 := (hr 1 (by decide)).trans e1
  replace e4 := (hr 4 (by decide)).trans e4
  replace e5 := (hr 5 (by decide)).trans e5
  replace e6 := (hr 6 (by decide)).trans e6
  replace e7 := (hr 7 (by decide)).trans e7
  replace e8 := (hr 8 (by decide)).trans e8
  replace e42 := (hr 42 (by decide)).trans e42
  replace e43 := (hr 43 (by decide)).trans e43
  clear hr
  refine tail_nil (hK20 _ _ ?_)
  refine wp_seq_k fun K24 hK24 => ?_
  refine rg mixed y23 zz23 ?_
  refine .da (X := SF w [b8_21, b6_17, b5_14, b4_11, b3_8, b2_4, b1_4]) (e := V.d (V.mk 5 0 ⟨#[]⟩ ([]) ([]))) (sp_call2 (φ1 := IsD (SF w [b8_21, b6_17, b5_14, b4_11, b3_8, b2_4, b1_4]) (strsD ([]))) (φ2 := IsD (SF w [b8_21, b6_17, b5_14, b4_11, b3_8, b2_4, b1_4]) (valsD ([]))) ent71 (Has.cst.dat (rd_nil _ : Rd W22 (SF w [b8_21, b6_17, b5_14, b4_11, b3_8, b2_4, b1_4]) (strsD ([])) _) sub_all) (Has.cst.dat (rd_nil _ : Rd W22 (SF w [b8_21, b6_17, b5_14, b4_11, b3_8, b2_4, b1_4]) (valsD ([])) _) sub_all) (fun g u1 u2 W hk hgk h1 h2 => (obj21_ok ([]) ([]) W _ _ _ h1 h2).mono (ret_arF kw (in_cons own_b8_21.lt (in_cons own_b6_17.lt (in_cons own_b5_14.lt (in_cons own_b4_11.lt (in_cons own_b3_8.lt (in_cons own_b2_4.lt (in_cons own_b1_4.lt in_nil))))))) hk hgk))) ?_
  refine .op (φ := IsT (IsD (Fr W22) (hssD (hsOV (V.mk 5 0 ⟨#[]⟩ ([]) ([]))))) (Is (.int .i64 (hsOE (V.mk 5 0 ⟨#[]⟩ ([]) ([])))))) (st_t (st_d sub_all) (st_is _)) (sp_call1 (φ1 := IsD (SF w [b8_21, b6_17, b5_14, b4_11, b3_8, b2_4, b1_4]) (V.d (V.mk 5 0 ⟨#[]⟩ ([]) ([])))) ent129 (hlc rfl) (fun g u1 W hk hgk h1 => (HashesOf_ok (V.mk 5 0 ⟨#[]⟩ ([]) ([])) (Nat.le_of_ble_eq_true (by kernel_rfl)) W _ _ h1).mono (fun _ _ ⟨v, h1, h2, r1, h3, h4⟩ => ⟨v, h1, h2, r1, _, h3, fresh_d hk hgk h4, rfl⟩))) ?_
  refine .op (φ := IsT (IsD (Fr W22) (hssD (hsOV (V.mk 5 0 ⟨#[]⟩ ([]) ([]))))) (Is (.int .i64 (hsOE (V.mk 5 0 ⟨#[]⟩ ([]) ([])))))) (st_t (st_d sub_all) (st_is _)) (sp_move (hlc rfl)) ?_
  refine .da (X := Fr W22) (e := hssD (hsOV (V.mk 5 0 ⟨#[]⟩ ([]) ([])))) (sp_ext2 (hlc rfl) rfl) ?_
  refine .i (v := (.int .i64 (hsOE (V.mk 5 0 ⟨#[]⟩ ([]) ([]))))) (sp_ext2' (hlc rfl) rfl) ?_
  refine .da (X := Fr W22) (e := hssD (hsOV (V.mk 5 0 ⟨#[]⟩ ([]) ([])))) (sp_assign (hlc rfl)) ?_
  refine .i (sp_assign (hlc rfl)) ?_
  refine .done ⟨by kernel_rfl, fun a25 g W25 y25 zz25 hk hg hV hR hP => ?_⟩
  obtain ⟨e11, -, -, -, -, -, -, -⟩ := hV
  replace e1 := (hR 1 rfl).trans e1
  replace e4 := (hR 4 rfl).trans e4
  replace e5 := (hR 5 rfl).trans e5
  replace e6 := (hR 6 rfl).trans e6
  replace e7 := (hR 7 rfl).trans e7
  replace e8 := (hR 8 rfl).trans e8
  replace e9 := (hR 9 rfl).trans e9
  replace D_v24_11_1 := D_v24_11_1.ext hk
  replace D_v24_11_5 := D_v24_11_5.ext hk
  replace D_v24_11_6 := D_v24_11_6.ext hk
  replace D_cn33_14 := D_cn33_14.ext hk
  replace D_ci33_14 := D_ci33_14.ext hk
  replace D_v37_17_1 := D_v37_17_1.ext hk
  replace D_v37_17_5 := D_v37_17_5.ext hk
  replace D_v37_17_6 := D_v37_17_6.ext hk
  replace D_cn42_21 := D_cn42_21.ext hk
  replace D_ci42_21 := D_ci42_21.ext hk
  replace e11 := e11.q
  replace own_b2_4 := own_b2_4.ext hk
  replace own_b1_4 := own_b1_4.ext hk
  replace own_b3_8 := own_b3_8.ext hk
  replace own_b4_11 := own_b4_11.ext hk
  replace own_b5_14 := own_b5_14.ext hk
  replace own_b6_17 := own_b6_17.ext hk
  replace own_b8_21 := own_b8_21.ext hk
  replace kw := kw.x hk
  clear hR hk hg hP
  refine tail_nil (hK24 _ _ ?_)
  refine wp_seq_k fun K26 hK26 => ?_
  refine rg mixed y25 zz25 ?_
  refine .da (X := SF w [b8_21, b6_17, b5_14, b4_11, b3_8, b2_4, b1_4]) (e := strsD ([⟨#[97]⟩])) (sp_bsl (ds := [D.str (⟨#[97]⟩)]) Try.underlying23 sz9 z9 (lbr rfl) (lbr rfl) ⟨rfl, (Has.cst.str (lbr rfl)), trivial⟩ rfl (by simp [width]) (fr_sf kw (in_cons own_b8_21.lt (in_cons own_b6_17.lt (in_cons own_b5_14.lt (in_cons own_b4_11.lt (in_cons own_b3_8.lt (in_cons own_b2_4.lt (in_cons own_b1_4.lt in_nil))))))))) ?_
  refine .i (v := (.agg #[(.int .u8 (2)), (.int .i64 (3)), (.string (⟨#[]⟩)), (.slice none 0 0), (.slice none 0 0)])) (loA (hbs rfl e1) own_b1_4 trivial agg33 sz33 rfl rfl) ?_
  refine .da (X := SF w [b8_21, b6_17, b5_14, b4_11, b3_8, b2_4, b1_4]) (e := valsD ([V.mk (2) (3) (⟨#[]⟩) ([]) ([])])) (sp_bsl (ds := [V.d (V.mk (2) (3) (⟨#[]⟩) ([]) ([]))]) Try.underlying31 sz33 z33 (lbr rfl) (lbr rfl) ⟨rfl, ((hlc rfl).dat (rdV_mk (lbr rfl) (rd_nil _) (rd_nil _) : Rd W25 (SF w [b8_21, b6_17, b5_14, b4_11, b3_8, b2_4, b1_4]) (V.d (V.mk (2) (3) (⟨#[]⟩) ([]) ([]))) _) sub_all), trivial⟩ rfl (by intro e he; simp at he; rcases he with rfl <;> exact width_V _) (fr_sf kw (in_cons own_b8_21.lt (in_cons own_b6_17.lt (in_cons own_b5_14.lt (in_cons own_b4_11.lt (in_cons own_b3_8.lt (in_cons own_b2_4.lt (in_cons own_b1_4.lt in_nil))))))))) ?_
  refine .da (X := SF w [b8_21, b6_17, b5_14, b4_11, b3_8, b2_4, b1_4]) (e := V.d (V.mk 5 0 ⟨#[]⟩ ([⟨#[97]⟩]) ([V.mk (2) (3) (⟨#[]⟩) ([]) ([])]))) (sp_call2 (φ1 := IsD (SF w [b8_21, b6_17, b5_14, b4_11, b3_8, b2_4, b1_4]) (strsD ([⟨#[97]⟩]))) (φ2 := IsD (SF w [b8_21, b6_17, b5_14, b4_11, b3_8, b2_4, b1_4]) (valsD ([V.mk (2) (3) (⟨#[]⟩) ([]) ([])]))) ent71 (hlc rfl) (hlc rfl) (fun g u1 u2 W hk hgk h1 h2 => (obj21_ok ([⟨#[97]⟩]) ([V.mk (2) (3) (⟨#[]⟩) ([]) ([])]) W _ _ _ h1 h2).mono (ret_arF kw (in_cons own_b8_21.lt (in_cons own_b6_17.lt (in_cons own_b5_14.lt (in_cons own_b4_11.lt (in_cons own_b3_8.lt (in_cons own_b2_4.lt (in_cons own_b1_4.lt in_nil))))))) hk hgk))) ?_
  refine .op (φ := IsT (IsD (Fr W25) (hssD (hsOV (V.mk 5 0 ⟨#[]⟩ ([⟨#[97]⟩]) ([V.mk (2) (3) (⟨#[]⟩) ([]) ([])]))))) (Is (.int .i64 (hsOE (V.mk 5 0 ⟨#[]⟩ ([⟨#[97]⟩]) ([V.mk (2) (3) (⟨#[]⟩) ([]) ([])])))))) (st_t (st_d sub_all) (st_is _)) (sp_call1 (φ1 := IsD (SF w [b8_21, b6_17, b5_14, b4_11, b3_8, b2_4, b1_4]) (V.d (V.mk 5 0 ⟨#[]⟩ ([⟨#[97]⟩]) ([V.mk (2) (3) (⟨#[]⟩) ([]) ([])])))) ent129 (hlc rfl) (fun g u1 W hk hgk h1 => (HashesOf_ok (V.mk 5 0 ⟨#[]⟩ ([⟨#[97]⟩]) ([V.mk (2) (3) (⟨#[]⟩) ([]) ([])])) (Nat.le_of_ble_eq_true (by kernel_rfl)) W _ _ h1).mono (fun _ _ ⟨v, h1, h2, r1, h3, h4⟩ => ⟨v, h1, h2, r1, _, h3, fresh_d hk hgk h4, rfl⟩))) ?_
  refine .op (φ := IsT (IsD (Fr W25) (hssD (hsOV (V.mk 5 0 ⟨#[]⟩ ([⟨#[97]⟩]) ([V.mk (2) (3) (⟨#[]⟩) ([]) ([])]))))) (Is (.int .i64 (hsOE (V.mk 5 0 ⟨#[]⟩ ([⟨#[97]⟩]) ([V.mk (2) (3) (⟨#[]⟩) ([]) ([])])))))) (st_t (st_d sub_all) (st_is _)) (sp_move (hlc rfl)) ?_
  refine .da (X := Fr W25) (e := hssD (hsOV (V.mk 5 0 ⟨#[]⟩ ([⟨#[97]⟩]) ([V.mk (2) (3) (⟨#[]⟩) ([]) ([])])))) (sp_ext2 (hlc rfl) rfl) ?_
  refine .i (v := (.int .i64 (hsOE (V.mk 5 0 ⟨#[]⟩ ([⟨#[97]⟩]) ([V.mk (2) (3) (⟨#[]⟩) ([]) ([])]))))) (sp_ext2' (hlc rfl) rfl) ?_
  refine .da (X := Fr W25) (e := hssD (hsOV (V.mk 5 0 ⟨#[]⟩ ([⟨#[97]⟩]) ([V.mk (2) (3) (⟨#[]⟩) ([]) ([])])))) (sp_assign (hlc rfl)) ?_
  refine .i (sp_assign (hlc rfl)) ?_
  refine .done ⟨by kernel_rfl, fun a27 g W27 y27 zz27 hk hg hV hR hP => ?_⟩
  obtain ⟨e13, -, -, -, -, -, -, -, -, -, -⟩ := hV
  replace e4 := (hR 4 rfl).trans e4
  replace e5 := (hR 5 rfl).trans e5
  replace e6 := (hR 6 rfl).trans e6
  replace e7 := (hR 7 rfl).trans e7
  replace e8 := (hR 8 rfl).trans e8
  replace e9 := (hR 9 rfl).trans e9
  replace e11 := (hR 11 rfl).trans e11
  replace D_v24_11_1 := D_v24_11_1.ext hk
  replace D_v24_11_5 := D_v24_11_5.ext hk
  replace D_v24_11_6 := D_v24_11_6.ext hk
  replace D_cn33_14 := D_cn33_14.ext hk
  replace D_ci33_14 := D_ci33_14.ext hk
  replace D_v37_17_1 := D_v37_17_1.ext hk
  replace D_v37_17_5 := D_v37_17_5.ext hk
  replace D_v37_17_6 := D_v37_17_6.ext hk
  replace D_cn42_21 := D_cn42_21.ext hk
  replace D_ci42_21 := D_ci42_21.ext hk
  replace e13 := e13.q
  replace own_b2_4 := own_b2_4.ext hk
  replace own_b1_4 := own_b1_4.ext hk
  replace own_b3_8 := own_b3_8.ext hk
  replace own_b4_11 := own_b4_11.ext hk
  replace own_b5_14 := own_b5_14.ext hk
  replace own_b6_17 := own_b6_17.ext hk
  replace own_b8_21 := own_b8_21.ext hk
  replace kw := kw.x hk
  clear hR hk hg hP
  refine tail_nil (hK26 _ _ ?_)
  refine wp_seq_k fun K28 hK28 => ?_
  refine rg mixed y27 zz27 ?_
  refine .da (X := SF w [b8_21, b6_17, b5_14, b4_11, b3_8, b2_4, b1_4]) (e := strsD ([⟨#[97]⟩])) (sp_bsl (ds := [D.str (⟨#[97]⟩)]) Try.underlying23 sz9 z9 (lbr rfl) (lbr rfl) ⟨rfl, (Has.cst.str (lbr rfl)), trivial⟩ rfl (by simp [width]) (fr_sf kw (in_cons own_b8_21.lt (in_cons own_b6_17.lt (in_cons own_b5_14.lt (in_cons own_b4_11.lt (in_cons own_b3_8.lt (in_cons own_b2_4.lt (in_cons own_b1_4.lt in_nil))))))))) ?_
  refine .i (v := (.agg #[(.int .u8 (3)), (.int .i64 (0)), (.string (⟨#[97, 98, 99]⟩)), (.slice none 0 0), (.slice none 0 0)])) (sp_build (vs := [(0, (.int .u8 (3))), (2, (.string (⟨#[97, 98, 99]⟩)))]) Try.underlying33 z33 (pl33 Try.underlying33) ⟨rfl, Has.cst, rfl, Has.cst, trivial⟩ rfl) ?_
  refine .da (X := SF w [b8_21, b6_17, b5_14, b4_11, b3_8, b2_4, b1_4]) (e := valsD ([V.mk (3) (0) (⟨#[97, 98, 99]⟩) ([]) ([])])) (sp_bsl (ds := [V.d (V.mk (3) (0) (⟨#[97, 98, 99]⟩) ([]) ([]))]) Try.underlying31 sz33 z33 (lbr rfl) (lbr rfl) ⟨rfl, ((hlc rfl).dat (rdV_mk (lbr rfl) (rd_nil _) (rd_nil _) : Rd W27 (SF w [b8_21, b6_17, b5_14, b4_11, b3_8, b2_4, b1_4]) (V.d (V.mk (3) (0) (⟨#[97, 98, 99]⟩) ([]) ([]))) _) sub_all), trivial⟩ rfl (by intro e he; simp at he; rcases he with rfl <;> exact width_V _) (fr_sf kw (in_cons own_b8_21.lt (in_cons own_b6_17.lt (in_cons own_b5_14.lt (in_cons own_b4_11.lt (in_cons own_b3_8.lt (in_cons own_b2_4.lt (in_cons own_b1_4.lt in_nil))))))))) ?_
  refine .da (X := SF w [b8_21, b6_17, b5_14, b4_11, b3_8, b2_4, b1_4]) (e := V.d (V.mk 5 0 ⟨#[]⟩ ([⟨#[97]⟩]) ([V.mk (3) (0) (⟨#[97, 98, 99]⟩) ([]) ([])]))) (sp_call2 (φ1 := IsD (SF w [b8_21, b6_17, b5_14, b4_11, b3_8, b2_4, b1_4]) (strsD ([⟨#[97]⟩]))) (φ2 := IsD (SF w [b8_21, b6_17, b5_14, b4_11, b3_8, b2_4, b1_4]) (valsD ([V.mk (3) (0) (⟨#[97, 98, 99]⟩) ([]) ([])]))) ent71 (hlc rfl) (hlc rfl) (fun g u1 u2 W hk hgk h1 h2 => (obj21_ok ([⟨#[97]⟩]) ([V.mk (3) (0) (⟨#[97, 98, 99]⟩) ([]) ([])]) W _ _ _ h1 h2).mono (ret_arF kw (in_cons own_b8_21.lt (in_cons own_b6_17.lt (in_cons own_b5_14.lt (in_cons own_b4_11.lt (in_cons own_b3_8.lt (in_cons own_b2_4.lt (in_cons own_b1_4.lt in_nil))))))) hk hgk))) ?_
  refine .op (φ := IsT (IsD (Fr W27) (hssD (hsOV (V.mk 5 0 ⟨#[]⟩ ([⟨#[97]⟩]) ([V.mk (3) (0) (⟨#[97, 98, 99]⟩) ([]) ([])]))))) (Is (.int .i64 (hsOE (V.mk 5 0 ⟨#[]⟩ ([⟨#[97]⟩]) ([V.mk (3) (0) (⟨#[97, 98, 99]⟩) ([]) ([])])))))) (st_t (st_d sub_all) (st_is _)) (sp_call1 (φ1 := IsD (SF w [b8_21, b6_17, b5_14, b4_11, b3_8, b2_4, b1_4]) (V.d (V.mk 5 0 ⟨#[]⟩ ([⟨#[97]⟩]) ([V.mk (3) (0) (⟨#[97, 98, 99]⟩) ([]) ([])])))) ent129 (hlc rfl) (fun g u1 W hk hgk h1 => (HashesOf_ok (V.mk 5 0 ⟨#[]⟩ ([⟨#[97]⟩]) ([V.mk (3) (0) (⟨#[97, 98, 99]⟩) ([]) ([])])) (Nat.le_of_ble_eq_true (by kernel_rfl)) W _ _ h1).mono (fun _ _ ⟨v, h1, h2, r1, h3, h4⟩ => ⟨v, h1, h2, r1, _, h3, fresh_d hk hgk h4, rfl⟩))) ?_
  refine .op (φ := IsT (IsD (Fr W27) (hssD (hsOV (V.mk 5 0 ⟨#[]⟩ ([⟨#[97]⟩]) ([V.mk (3) (0) (⟨#[97, 98, 99]⟩) ([]) ([])]))))) (Is (.int .i64 (hsOE (V.mk 5 0 ⟨#[]⟩ ([⟨#[97]⟩]) ([V.mk (3) (0) (⟨#[97, 98, 99]⟩) ([]) ([])])))))) (st_t (st_d sub_all) (st_is _)) (sp_move (hlc rfl)) ?_
  refine .da (X := Fr W27) (e := hssD (hsOV (V.mk 5 0 ⟨#[]⟩ ([⟨#[97]⟩]) ([V.mk (3) (0) (⟨#[97, 98, 99]⟩) ([]) ([])])))) (sp_ext2 (hlc rfl) rfl) ?_
  refine .i (v := (.int .i64 (hsOE (V.mk 5 0 ⟨#[]⟩ ([⟨#[97]⟩]) ([V.mk (3) (0) (⟨#[97, 98, 99]⟩) ([]) ([])]))))) (sp_ext2' (hlc rfl) rfl) ?_
  refine .da (X := Fr W27) (e := hssD (hsOV (V.mk 5 0 ⟨#[]⟩ ([⟨#[97]⟩]) ([V.mk (3) (0) (⟨#[97, 98, 99]⟩) ([]) ([])])))) (sp_assign (hlc rfl)) ?_
  refine .i (sp_assign (hlc rfl)) ?_
  refine .done ⟨by kernel_rfl, fun a29 g W29 y29 zz29 hk hg hV hR hP => ?_⟩
  obtain ⟨e15, -, -, -, -, -, -, -, -, -, -⟩ := hV
  replace e4 := (hR 4 rfl).trans e4
  replace e5 := (hR 5 rfl).trans e5
  replace e6 := (hR 6 rfl).trans e6
  replace e7 := (hR 7 rfl).trans e7
  replace e8 := (hR 8 rfl).trans e8
  replace e9 := (hR 9 rfl).trans e9
  replace e11 := (hR 11 rfl).trans e11
  replace e13 := (hR 13 rfl).trans e13
  replace D_v24_11_1 := D_v24_11_1.ext hk
  replace D_v24_11_5 := D_v24_11_5.ext hk
  replace D_v24_11_6 := D_v24_11_6.ext hk
  replace D_cn33_14 := D_cn33_14.ext hk
  replace D_ci33_14 := D_ci33_14.ext hk
  replace D_v37_17_1 := D_v37_17_1.ext hk
  replace D_v37_17_5 := D_v37_17_5.ext hk
  replace D_v37_17_6 := D_v37_17_6.ext hk
  replace D_cn42_21 := D_cn42_21.ext hk
  replace D_ci42_21 := D_ci42_21.ext hk
  replace e15 := e15.q
  replace own_b2_4 := own_b2_4.ext hk
  replace own_b1_4 := own_b1_4.ext hk
  replace own_b3_8 := own_b3_8.ext hk
  replace own_b4_11 := own_b4_11.ext hk
  replace own_b5_14 := own_b5_14.ext hk
  replace own_b6_17 := own_b6_17.ext hk
  replace own_b8_21 := own_b8_21.ext hk
  replace kw := kw.x hk
  clear hR hk hg hP
  refine tail_nil (hK28 _ _ ?_)
  refine wp_seq_k fun K30 hK30 => ?_
  refine rg mixed y29 zz29 ?_
  refine .i (fo 1 (hbs rfl e6) Try.underlying87 rfl sz85 rfl) ?_
  refine .i (lo1 (hlc rfl) own_b6_17 trivial agg85 sz85 rfl) ?_
  refine .i (v := (.tuple #[(.string (hashS ((ofRV ((V.mk 5 0 ⟨#[]⟩ ([sCustom, sHashes, sLength]) ([V.mk (1) (1) (⟨#[]⟩) ([]) ([]), V.mk 5 0 ⟨#[]⟩ ([⟨#[115, 104, 97, 50, 53, 54]⟩]) ([V.mk (3) (0) (⟨#[97, 98]⟩) ([]) ([])]), V.mk (2) (3) (⟨#[]⟩) ([]) ([])])))).hs) ⟨#[115, 104, 97, 50, 53, 54]⟩)), (.bool (hashB ((ofRV ((V.mk 5 0 ⟨#[]⟩ ([sCustom, sHashes, sLength]) ([V.mk (1) (1) (⟨#[]⟩) ([]) ([]), V.mk 5 0 ⟨#[]⟩ ([⟨#[115, 104, 97, 50, 53, 54]⟩]) ([V.mk (3) (0) (⟨#[97, 98]⟩) ([]) ([])]), V.mk (2) (3) (⟨#[]⟩) ([]) ([])])))).hs) ⟨#[115, 104, 97, 50, 53, 54]⟩))])) (sp_call2 (φ1 := IsD (SF w [b8_21, b6_17, b5_14, b4_11, b3_8, b2_4, b1_4]) (hssD ((ofRV ((V.mk 5 0 ⟨#[]⟩ ([sCustom, sHashes, sLength]) ([V.mk (1) (1) (⟨#[]⟩) ([]) ([]), V.mk 5 0 ⟨#[]⟩ ([⟨#[115, 104, 97, 50, 53, 54]⟩]) ([V.mk (3) (0) (⟨#[97, 98]⟩) ([]) ([])]), V.mk (2) (3) (⟨#[]⟩) ([]) ([])])))).hs))) (φ2 := Is (.string (⟨#[115, 104, 97, 50, 53, 54]⟩))) ent75 ((hlc rfl).dat D_v37_17_1 sub_all) Has.cst (fun g u1 u2 W hk hgk h1 h2 => by have h2 : u2 = _ := h2; subst u2; exact Hash_ok ((ofRV ((V.mk 5 0 ⟨#[]⟩ ([sCustom, sHashes, sLength]) ([V.mk (1) (1) (⟨#[]⟩) ([]) ([]), V.mk 5 0 ⟨#[]⟩ ([⟨#[115, 104, 97, 50, 53, 54]⟩]) ([V.mk (3) (0) (⟨#[97, 98]⟩) ([]) ([])]), V.mk (2) (3) (⟨#[]⟩) ([]) ([])])))).hs) (⟨#[115, 104, 97, 50, 53, 54]⟩) W _ _ h1)) ?_
  refine .i (sp_move (hlc rfl)) ?_
  refine .i (v := (.string (hashS ((ofRV ((V.mk 5 0 ⟨#[]⟩ ([sCustom, sHashes, sLength]) ([V.mk (1) (1) (⟨#[]⟩) ([]) ([]), V.mk 5 0 ⟨#[]⟩ ([⟨#[115, 104, 97, 50, 53, 54]⟩]) ([V.mk (3) (0) (⟨#[97, 98]⟩) ([]) ([])]), V.mk (2) (3) (⟨#[]⟩) ([]) ([])])))).hs) ⟨#[115, 104, 97, 50, 53, 54]⟩))) (sp_extT (hlc rfl) rfl) ?_
  refine .i (v := (.bool (hashB ((ofRV ((V.mk 5 0 ⟨#[]⟩ ([sCustom, sHashes, sLength]) ([V.mk (1) (1) (⟨#[]⟩) ([]) ([]), V.mk 5 0 ⟨#[]⟩ ([⟨#[115, 104, 97, 50, 53, 54]⟩]) ([V.mk (3) (0) (⟨#[97, 98]⟩) ([]) ([])]), V.mk (2) (3) (⟨#[]⟩) ([]) ([])])))).hs) ⟨#[115, 104, 97, 50, 53, 54]⟩))) (sp_extT (hlc rfl) rfl) ?_
  refine .i (sp_assign (hlc rfl)) ?_
  refine .i (sp_assign (hlc rfl)) ?_
  refine .done ⟨by kernel_rfl, fun a31 g W31 y31 zz31 hk hg hV hR hP => ?_⟩
  obtain ⟨e17, e16, -, -, -, -, -, -, -⟩ := hV
  replace e4 := (hR 4 rfl).trans e4
  replace e5 := (hR 5 rfl).trans e5
  replace e6 := (hR 6 rfl).trans e6
  replace e7 := (hR 7 rfl).trans e7
  replace e8 := (hR 8 rfl).trans e8
  replace e9 := (hR 9 rfl).trans e9
  replace e11 := (hR 11 rfl).trans e11
  replace e13 := (hR 13 rfl).trans e13
  replace e15 := (hR 15 rfl).trans e15
  replace D_v24_11_1 := D_v24_11_1.ext hk
  replace D_v24_11_5 := D_v24_11_5.ext hk
  replace D_v24_11_6 := D_v24_11_6.ext hk
  replace D_cn33_14 := D_cn33_14.ext hk
  replace D_ci33_14 := D_ci33_14.ext hk
  replace D_v37_17_1 := D_v37_17_1.ext hk
  replace D_v37_17_5 := D_v37_17_5.ext hk
  replace D_v37_17_6 := D_v37_17_6.ext hk
  replace D_cn42_21 := D_cn42_21.ext hk
  replace D_ci42_21 := D_ci42_21.ext hk
  replace e16 := e16.q
  replace e17 := e17.q
  replace own_b2_4 := own_b2_4.ext hk
  replace own_b1_4 := own_b1_4.ext hk
  replace own_b3_8 := own_b3_8.ext hk
  replace own_b4_11 := own_b4_11.ext hk
  replace own_b5_14 := own_b5_14.ext hk
  replace own_b6_17 := own_b6_17.ext hk
  replace own_b8_21 := own_b8_21.ext hk
  replace kw := kw.x hk
  clear hR hk hg hP
  refine tail_nil (hK30 _ _ ?_)
  refine wp_seq_k fun K32 hK32 => ?_
  refine rg mixed y31 zz31 ?_
  refine .i (sp_move (hbs rfl e7)) ?_
  refine .i (sp_eql (hlc rfl) Has.cst) ?_
  refine .i (sp_move (hlc rfl)) ?_
  refine .e (t := 73) (v := (.agg #[(.int .i64 ((ofRV ((V.mk 5 0 ⟨#[]⟩ ([sCustom, sHashes, sLength]) ([V.mk (1) (1) (⟨#[]⟩) ([]) ([]), V.mk 5 0 ⟨#[]⟩ ([⟨#[115, 104, 97, 50, 53, 54]⟩]) ([V.mk (3) (0) (⟨#[97, 98]⟩) ([]) ([])]), V.mk (2) (3) (⟨#[]⟩) ([]) ([])])))).ln)), (.slice v37_17_1a (((ofRV ((V.mk 5 0 ⟨#[]⟩ ([sCustom, sHashes, sLength]) ([V.mk (1) (1) (⟨#[]⟩) ([]) ([]), V.mk 5 0 ⟨#[]⟩ ([⟨#[115, 104, 97, 50, 53, 54]⟩]) ([V.mk (3) (0) (⟨#[97, 98]⟩) ([]) ([])]), V.mk (2) (3) (⟨#[]⟩) ([]) ([])])))).hs).length) v37_17_1c), (.int .u8 ((ofRV ((V.mk 5 0 ⟨#[]⟩ ([sCustom, sHashes, sLength]) ([V.mk (1) (1) (⟨#[]⟩) ([]) ([]), V.mk 5 0 ⟨#[]⟩ ([⟨#[115, 104, 97, 50, 53, 54]⟩]) ([V.mk (3) (0) (⟨#[97, 98]⟩) ([]) ([])]), V.mk (2) (3) (⟨#[]⟩) ([]) ([])])))).cu.k)), (.int .i64 ((ofRV ((V.mk 5 0 ⟨#[]⟩ ([sCustom, sHashes, sLength]) ([V.mk (1) (1) (⟨#[]⟩) ([]) ([]), V.mk 5 0 ⟨#[]⟩ ([⟨#[115, 104, 97, 50, 53, 54]⟩]) ([V.mk (3) (0) (⟨#[97, 98]⟩) ([]) ([])]), V.mk (2) (3) (⟨#[]⟩) ([]) ([])])))).cu.n)), (.string ((ofRV ((V.mk 5 0 ⟨#[]⟩ ([sCustom, sHashes, sLength]) ([V.mk (1) (1) (⟨#[]⟩) ([]) ([]), V.mk 5 0 ⟨#[]⟩ ([⟨#[115, 104, 97, 50, 53, 54]⟩]) ([V.mk (3) (0) (⟨#[97, 98]⟩) ([]) ([])]), V.mk (2) (3) (⟨#[]⟩) ([]) ([])])))).cu.t)), (.slice v37_17_5a (((ofRV ((V.mk 5 0 ⟨#[]⟩ ([sCustom, sHashes, sLength]) ([V.mk (1) (1) (⟨#[]⟩) ([]) ([]), V.mk 5 0 ⟨#[]⟩ ([⟨#[115, 104, 97, 50, 53, 54]⟩]) ([V.mk (3) (0) (⟨#[97, 98]⟩) ([]) ([])]), V.mk (2) (3) (⟨#[]⟩) ([]) ([])])))).cu.ns).length) v37_17_5c), (.slice v37_17_6a (((ofRV ((V.mk 5 0 ⟨#[]⟩ ([sCustom, sHashes, sLength]) ([V.mk (1) (1) (⟨#[]⟩) ([]) ([]), V.mk 5 0 ⟨#[]⟩ ([⟨#[115, 104, 97, 50, 53, 54]⟩]) ([V.mk (3) (0) (⟨#[97, 98]⟩) ([]) ([])]), V.mk (2) (3) (⟨#[]⟩) ([]) ([])])))).cu.xs).length) v37_17_6c)])) rfl (hlc rfl) (fun hg => loA (hbs rfl e6) own_b6_17 trivial agg87 sz87 rfl rfl) ?_
  refine .e (t := 73) (v := (.agg #[(.int .i64 ((Rc.mk (3) ([Hs.mk (⟨#[115, 104, 97, 50, 53, 54]⟩) (⟨#[97, 98]⟩)]) (V.mk (1) (1) (⟨#[]⟩) ([]) ([]))).ln)), (.slice v24_11_1a (((Rc.mk (3) ([Hs.mk (⟨#[115, 104, 97, 50, 53, 54]⟩) (⟨#[97, 98]⟩)]) (V.mk (1) (1) (⟨#[]⟩) ([]) ([]))).hs).length) v24_11_1c), (.int .u8 ((Rc.mk (3) ([Hs.mk (⟨#[115, 104, 97, 50, 53, 54]⟩) (⟨#[97, 98]⟩)]) (V.mk (1) (1) (⟨#[]⟩) ([]) ([]))).cu.k)), (.int .i64 ((Rc.mk (3) ([Hs.mk (⟨#[115, 104, 97, 50, 53, 54]⟩) (⟨#[97, 98]⟩)]) (V.mk (1) (1) (⟨#[]⟩) ([]) ([]))).cu.n)), (.string ((Rc.mk (3) ([Hs.mk (⟨#[115, 104, 97, 50, 53, 54]⟩) (⟨#[97, 98]⟩)]) (V.mk (1) (1) (⟨#[]⟩) ([]) ([]))).cu.t)), (.slice v24_11_5a (((Rc.mk (3) ([Hs.mk (⟨#[115, 104, 97, 50, 53, 54]⟩) (⟨#[97, 98]⟩)]) (V.mk (1) (1) (⟨#[]⟩) ([]) ([]))).cu.ns).length) v24_11_5c), (.slice v24_11_6a (((Rc.mk (3) ([Hs.mk (⟨#[115, 104, 97, 50, 53, 54]⟩) (⟨#[97, 98]⟩)]) (V.mk (1) (1) (⟨#[]⟩) ([]) ([]))).cu.xs).length) v24_11_6c)])) rfl (hlc rfl) (fun hg => loA (hbs rfl e4) own_b4_11 trivial agg87 sz87 rfl rfl) ?_
  refine .e (t := 73) (v := (.bool (sameR (ofRV ((V.mk 5 0 ⟨#[]⟩ ([sCustom, sHashes, sLength]) ([V.mk (1) (1) (⟨#[]⟩) ([]) ([]), V.mk 5 0 ⟨#[]⟩ ([⟨#[115, 104, 97, 50, 53, 54]⟩]) ([V.mk (3) (0) (⟨#[97, 98]⟩) ([]) ([])]), V.mk (2) (3) (⟨#[]⟩) ([]) ([])])))) (Rc.mk (3) ([Hs.mk (⟨#[115, 104, 97, 50, 53, 54]⟩) (⟨#[97, 98]⟩)]) (V.mk (1) (1) (⟨#[]⟩) ([]) ([])))))) rfl (hlc rfl) (fun hg => sp_call2 (φ1 := IsD (SF w [b8_21, b6_17, b5_14, b4_11, b3_8, b2_4, b1_4]) (Rc.d ((ofRV ((V.mk 5 0 ⟨#[]⟩ ([sCustom, sHashes, sLength]) ([V.mk (1) (1) (⟨#[]⟩) ([]) ([]), V.mk 5 0 ⟨#[]⟩ ([⟨#[115, 104, 97, 50, 53, 54]⟩]) ([V.mk (3) (0) (⟨#[97, 98]⟩) ([]) ([])]), V.mk (2) (3) (⟨#[]⟩) ([]) ([])]))))))) (φ2 := IsD (SF w [b8_21, b6_17, b5_14, b4_11, b3_8, b2_4, b1_4]) (Rc.d ((Rc.mk (3) ([Hs.mk (⟨#[115, 104, 97, 50, 53, 54]⟩) (⟨#[97, 98]⟩)]) (V.mk (1) (1) (⟨#[]⟩) ([]) ([])))))) ent73 (((hlc rfl).undE hg).dat (rdRc_mk D_v37_17_1 (rdV_in (x := (ofRV ((V.mk 5 0 ⟨#[]⟩ ([sCustom, sHashes, sLength]) ([V.mk (1) (1) (⟨#[]⟩) ([]) ([]), V.mk 5 0 ⟨#[]⟩ ([⟨#[115, 104, 97, 50, 53, 54]⟩]) ([V.mk (3) (0) (⟨#[97, 98]⟩) ([]) ([])]), V.mk (2) (3) (⟨#[]⟩) ([]) ([])])))).cu) hb_v37_17_4 D_v37_17_5 D_v37_17_6 : Rd W31 (SF w [b8_21, b6_17, b5_14, b4_11, b3_8, b2_4, b1_4]) (V.d ((ofRV ((V.mk 5 0 ⟨#[]⟩ ([sCustom, sHashes, sLength]) ([V.mk (1) (1) (⟨#[]⟩) ([]) ([]), V.mk 5 0 ⟨#[]⟩ ([⟨#[115, 104, 97, 50, 53, 54]⟩]) ([V.mk (3) (0) (⟨#[97, 98]⟩) ([]) ([])]), V.mk (2) (3) (⟨#[]⟩) ([]) ([])])))).cu)) _) : Rd W31 (SF w [b8_21, b6_17, b5_14, b4_11, b3_8, b2_4, b1_4]) (Rc.d ((ofRV ((V.mk 5 0 ⟨#[]⟩ ([sCustom, sHashes, sLength]) ([V.mk (1) (1) (⟨#[]⟩) ([]) ([]), V.mk 5 0 ⟨#[]⟩ ([⟨#[115, 104, 97, 50, 53, 54]⟩]) ([V.mk (3) (0) (⟨#[97, 98]⟩) ([]) ([])]), V.mk (2) (3) (⟨#[]⟩) ([]) ([])])))))) _) sub_all) (((hlc rfl).undE hg).dat (rdRc_mk D_v24_11_1 (rdV_in (x := (Rc.mk (3) ([Hs.mk (⟨#[115, 104, 97, 50, 53, 54]⟩) (⟨#[97, 98]⟩)]) (V.mk (1) (1) (⟨#[]⟩) ([]) ([]))).cu) hb_v24_11_4 D_v24_11_5 D_v24_11_6 : Rd W31 (SF w [b8_21, b6_17, b5_14, b4_11, b3_8, b2_4, b1_4]) (V.d ((Rc.mk (3) ([Hs.mk (⟨#[115, 104, 97, 50, 53, 54]⟩) (⟨#[97, 98]⟩)]) (V.mk (1) (1) (⟨#[]⟩) ([]) ([]))).cu)) _) : Rd W31 (SF w [b8_21, b6_17, b5_14, b4_11, b3_8, b2_4, b1_4]) (Rc.d ((Rc.mk (3) ([Hs.mk (⟨#[115, 104, 97, 50, 53, 54]⟩) (⟨#[97, 98]⟩)]) (V.mk (1) (1) (⟨#[]⟩) ([]) ([]))))) _) sub_all) (fun g u1 u2 W hk hgk h1 h2 => refSameR_ok ((ofRV ((V.mk 5 0 ⟨#[]⟩ ([sCustom, sHashes, sLength]) ([V.mk (1) (1) (⟨#[]⟩) ([]) ([]), V.mk 5 0 ⟨#[]⟩ ([⟨#[115, 104, 97, 50, 53, 54]⟩]) ([V.mk (3) (0) (⟨#[97, 98]⟩) ([]) ([])]), V.mk (2) (3) (⟨#[]⟩) ([]) ([])]))))) ((Rc.mk (3) ([Hs.mk (⟨#[115, 104, 97, 50, 53, 54]⟩) (⟨#[97, 98]⟩)]) (V.mk (1) (1) (⟨#[]⟩) ([]) ([])))) (Nat.le_of_ble_eq_true (by kernel_rfl)) (Nat.le_of_ble_eq_true (by kernel_rfl)) W _ _ _ h1 h2)) ?_
  refine .i (sp_and (hlc rfl) ((hlc rfl).weak fun hq => hq)) ?_
  refine .i (sp_move (hlc rfl)) ?_
  refine .e (t := 78) (v := (.agg #[(.int .i64 ((ofRV ((V.mk 5 0 ⟨#[]⟩ ([sCustom, sHashes, sLength]) ([V.mk (1) (1) (⟨#[]⟩) ([]) ([]), V.mk 5 0 ⟨#[]⟩ ([⟨#[115, 104, 97, 50, 53, 54]⟩]) ([V.mk (3) (0) (⟨#[97, 98]⟩) ([]) ([])]), V.mk (2) (3) (⟨#[]⟩) ([]) ([])])))).ln)), (.slice v37_17_1a (((ofRV ((V.mk 5 0 ⟨#[]⟩ ([sCustom, sHashes, sLength]) ([V.mk (1) (1) (⟨#[]⟩) ([]) ([]), V.mk 5 0 ⟨#[]⟩ ([⟨#[115, 104, 97, 50, 53, 54]⟩]) ([V.mk (3) (0) (⟨#[97, 98]⟩) ([]) ([])]), V.mk (2) (3) (⟨#[]⟩) ([]) ([])])))).hs).length) v37_17_1c), (.int .u8 ((ofRV ((V.mk 5 0 ⟨#[]⟩ ([sCustom, sHashes, sLength]) ([V.mk (1) (1) (⟨#[]⟩) ([]) ([]), V.mk 5 0 ⟨#[]⟩ ([⟨#[115, 104, 97, 50, 53, 54]⟩]) ([V.mk (3) (0) (⟨#[97, 98]⟩) ([]) ([])]), V.mk (2) (3) (⟨#[]⟩) ([]) ([])])))).cu.k)), (.int .i64 ((ofRV ((V.mk 5 0 ⟨#[]⟩ ([sCustom, sHashes, sLength]) ([V.mk (1) (1) (⟨#[]⟩) ([]) ([]), V.mk 5 0 ⟨#[]⟩ ([⟨#[115, 104, 97, 50, 53, 54]⟩]) ([V.mk (3) (0) (⟨#[97, 98]⟩) ([]) ([])]), V.mk (2) (3) (⟨#[]⟩) ([]) ([])])))).cu.n)), (.string ((ofRV ((V.mk 5 0 ⟨#[]⟩ ([sCustom, sHashes, sLength]) ([V.mk (1) (1) (⟨#[]⟩) ([]) ([]), V.mk 5 0 ⟨#[]⟩ ([⟨#[115, 104, 97, 50, 53, 54]⟩]) ([V.mk (3) (0) (⟨#[97, 98]⟩) ([]) ([])]), V.mk (2) (3) (⟨#[]⟩) ([]) ([])])))).cu.t)), (.slice v37_17_5a (((ofRV ((V.mk 5 0 ⟨#[]⟩ ([sCustom, sHashes, sLength]) ([V.mk (1) (1) (⟨#[]⟩) ([]) ([]), V.mk 5 0 ⟨#[]⟩ ([⟨#[115, 104, 97, 50, 53, 54]⟩]) ([V.mk (3) (0) (⟨#[97, 98]⟩) ([]) ([])]), V.mk (2) (3) (⟨#[]⟩) ([]) ([])])))).cu.ns).length) v37_17_5c), (.slice v37_17_6a (((ofRV ((V.mk 5 0 ⟨#[]⟩ ([sCustom, sHashes, sLength]) ([V.mk (1) (1) (⟨#[]⟩) ([]) ([]), V.mk 5 0 ⟨#[]⟩ ([⟨#[115, 104, 97, 50, 53, 54]⟩]) ([V.mk (3) (0) (⟨#[97, 98]⟩) ([]) ([])]), V.mk (2) (3) (⟨#[]⟩) ([]) ([])])))).cu.xs).length) v37_17_6c)])) rfl (hlc rfl) (fun hg => loA (hbs rfl e6) own_b6_17 trivial agg87 sz87 rfl rfl) ?_
  refine .e (t := 78) (v := (.bool (mayR (ofRV ((V.mk 5 0 ⟨#[]⟩ ([sCustom, sHashes, sLength]) ([V.mk (1) (1) (⟨#[]⟩) ([]) ([]), V.mk 5 0 ⟨#[]⟩ ([⟨#[115, 104, 97, 50, 53, 54]⟩]) ([V.mk (3) (0) (⟨#[97, 98]⟩) ([]) ([])]), V.mk (2) (3) (⟨#[]⟩) ([]) ([])]))))))) rfl (hlc rfl) (fun hg => sp_call1 (φ1 := IsD (SF w [b8_21, b6_17, b5_14, b4_11, b3_8, b2_4, b1_4]) (Rc.d ((ofRV ((V.mk 5 0 ⟨#[]⟩ ([sCustom, sHashes, sLength]) ([V.mk (1) (1) (⟨#[]⟩) ([]) ([]), V.mk 5 0 ⟨#[]⟩ ([⟨#[115, 104, 97, 50, 53, 54]⟩]) ([V.mk (3) (0) (⟨#[97, 98]⟩) ([]) ([])]), V.mk (2) (3) (⟨#[]⟩) ([]) ([])]))))))) ent70 (((hlc rfl).undE hg).dat (rdRc_mk D_v37_17_1 (rdV_in (x := (ofRV ((V.mk 5 0 ⟨#[]⟩ ([sCustom, sHashes, sLength]) ([V.mk (1) (1) (⟨#[]⟩) ([]) ([]), V.mk 5 0 ⟨#[]⟩ ([⟨#[115, 104, 97, 50, 53, 54]⟩]) ([V.mk (3) (0) (⟨#[97, 98]⟩) ([]) ([])]), V.mk (2) (3) (⟨#[]⟩) ([]) ([])])))).cu) hb_v37_17_4 D_v37_17_5 D_v37_17_6 : Rd W31 (SF w [b8_21, b6_17, b5_14, b4_11, b3_8, b2_4, b1_4]) (V.d ((ofRV ((V.mk 5 0 ⟨#[]⟩ ([sCustom, sHashes, sLength]) ([V.mk (1) (1) (⟨#[]⟩) ([]) ([]), V.mk 5 0 ⟨#[]⟩ ([⟨#[115, 104, 97, 50, 53, 54]⟩]) ([V.mk (3) (0) (⟨#[97, 98]⟩) ([]) ([])]), V.mk (2) (3) (⟨#[]⟩) ([]) ([])])))).cu)) _) : Rd W31 (SF w [b8_21, b6_17, b5_14, b4_11, b3_8, b2_4, b1_4]) (Rc.d ((ofRV ((V.mk 5 0 ⟨#[]⟩ ([sCustom, sHashes, sLength]) ([V.mk (1) (1) (⟨#[]⟩) ([]) ([]), V.mk 5 0 ⟨#[]⟩ ([⟨#[115, 104, 97, 50, 53, 54]⟩]) ([V.mk (3) (0) (⟨#[97, 98]⟩) ([]) ([])]), V.mk (2) (3) (⟨#[]⟩) ([]) ([])])))))) _) sub_all) (fun g u1 W hk hgk h1 => MayR_ok ((ofRV ((V.mk 5 0 ⟨#[]⟩ ([sCustom, sHashes, sLength]) ([V.mk (1) (1) (⟨#[]⟩) ([]) ([]), V.mk 5 0 ⟨#[]⟩ ([⟨#[115, 104, 97, 50, 53, 54]⟩]) ([V.mk (3) (0) (⟨#[97, 98]⟩) ([]) ([])]), V.mk (2) (3) (⟨#[]⟩) ([]) ([])]))))) (Nat.le_of_ble_eq_true (by kernel_rfl)) W _ _ (fun b o h => h.1.2.1) h1)) ?_
  refine .i (sp_and (hlc rfl) ((hlc rfl).weak fun hq => hq)) ?_
  refine .i (sp_move (hlc rfl)) ?_
  refine .opE (t := 82) (φ := _) rfl (hlc rfl) (st_is _) (fun hg => sp_move (hbs rfl e9)) ?_
  refine .e (t := 82) rfl (hlc rfl) (fun hg => sp_eql ((hlc rfl).undE hg) Has.cst) ?_
  refine .i (sp_and (hlc rfl) ((hlc rfl).weak fun hq => hq)) ?_
  refine .i (sp_move (hlc rfl)) ?_
  refine .e (t := 86) (v := (.agg #[(.int .u8 ((V.mk 5 0 ⟨#[]⟩ ([sCustom, sHashes, sLength]) ([V.mk (1) (1) (⟨#[]⟩) ([]) ([]), V.mk 5 0 ⟨#[]⟩ ([⟨#[115, 104, 97, 50, 53, 54]⟩]) ([V.mk (3) (0) (⟨#[97, 98]⟩) ([]) ([])]), V.mk (2) (3) (⟨#[]⟩) ([]) ([])])).k)), (.int .i64 ((V.mk 5 0 ⟨#[]⟩ ([sCustom, sHashes, sLength]) ([V.mk (1) (1) (⟨#[]⟩) ([]) ([]), V.mk 5 0 ⟨#[]⟩ ([⟨#[115, 104, 97, 50, 53, 54]⟩]) ([V.mk (3) (0) (⟨#[97, 98]⟩) ([]) ([])]), V.mk (2) (3) (⟨#[]⟩) ([]) ([])])).n)), (.string ((V.mk 5 0 ⟨#[]⟩ ([sCustom, sHashes, sLength]) ([V.mk (1) (1) (⟨#[]⟩) ([]) ([]), V.mk 5 0 ⟨#[]⟩ ([⟨#[115, 104, 97, 50, 53, 54]⟩]) ([V.mk (3) (0) (⟨#[97, 98]⟩) ([]) ([])]), V.mk (2) (3) (⟨#[]⟩) ([]) ([])])).t)), (.slice cn33_14a (((V.mk 5 0 ⟨#[]⟩ ([sCustom, sHashes, sLength]) ([V.mk (1) (1) (⟨#[]⟩) ([]) ([]), V.mk 5 0 ⟨#[]⟩ ([⟨#[115, 104, 97, 50, 53, 54]⟩]) ([V.mk (3) (0) (⟨#[97, 98]⟩) ([]) ([])]), V.mk (2) (3) (⟨#[]⟩) ([]) ([])])).ns).length) cn33_14c), (.slice ci33_14a (((V.mk 5 0 ⟨#[]⟩ ([sCustom, sHashes, sLength]) ([V.mk (1) (1) (⟨#[]⟩) ([]) ([]), V.mk 5 0 ⟨#[]⟩ ([⟨#[115, 104, 97, 50, 53, 54]⟩]) ([V.mk (3) (0) (⟨#[97, 98]⟩) ([]) ([])]), V.mk (2) (3) (⟨#[]⟩) ([]) ([])])).xs).length) ci33_14c)])) rfl (hlc rfl) (fun hg => loA (hbs rfl e5) own_b5_14 trivial agg33 sz33 rfl rfl) ?_
  refine .e (t := 86) (v := (.agg #[(.int .u8 ((recV (ofRV ((V.mk 5 0 ⟨#[]⟩ ([sCustom, sHashes, sLength]) ([V.mk (1) (1) (⟨#[]⟩) ([]) ([]), V.mk 5 0 ⟨#[]⟩ ([⟨#[115, 104, 97, 50, 53, 54]⟩]) ([V.mk (3) (0) (⟨#[97, 98]⟩) ([]) ([])]), V.mk (2) (3) (⟨#[]⟩) ([]) ([])]))))).k)), (.int .i64 ((recV (ofRV ((V.mk 5 0 ⟨#[]⟩ ([sCustom, sHashes, sLength]) ([V.mk (1) (1) (⟨#[]⟩) ([]) ([]), V.mk 5 0 ⟨#[]⟩ ([⟨#[115, 104, 97, 50, 53, 54]⟩]) ([V.mk (3) (0) (⟨#[97, 98]⟩) ([]) ([])]), V.mk (2) (3) (⟨#[]⟩) ([]) ([])]))))).n)), (.string ((recV (ofRV ((V.mk 5 0 ⟨#[]⟩ ([sCustom, sHashes, sLength]) ([V.mk (1) (1) (⟨#[]⟩) ([]) ([]), V.mk 5 0 ⟨#[]⟩ ([⟨#[115, 104, 97, 50, 53, 54]⟩]) ([V.mk (3) (0) (⟨#[97, 98]⟩) ([]) ([])]), V.mk (2) (3) (⟨#[]⟩) ([]) ([])]))))).t)), (.slice cn42_21a (((recV (ofRV ((V.mk 5 0 ⟨#[]⟩ ([sCustom, sHashes, sLength]) ([V.mk (1) (1) (⟨#[]⟩) ([]) ([]), V.mk 5 0 ⟨#[]⟩ ([⟨#[115, 104, 97, 50, 53, 54]⟩]) ([V.mk (3) (0) (⟨#[97, 98]⟩) ([]) ([])]), V.mk (2) (3) (⟨#[]⟩) ([]) ([])]))))).ns).length) cn42_21c), (.slice ci42_21a (((recV (ofRV ((V.mk 5 0 ⟨#[]⟩ ([sCustom, sHashes, sLength]) ([V.mk (1) (1) (⟨#[]⟩) ([]) ([]), V.mk 5 0 ⟨#[]⟩ ([⟨#[115, 104, 97, 50, 53, 54]⟩]) ([V.mk (3) (0) (⟨#[97, 98]⟩) ([]) ([])]), V.mk (2) (3) (⟨#[]⟩) ([]) ([])]))))).xs).length) ci42_21c)])) rfl (hlc rfl) (fun hg => loA (hbs rfl e8) own_b8_21 trivial agg33 sz33 rfl rfl) ?_
  refine .e (t := 86) (v := (.bool (V.beq ((V.mk 5 0 ⟨#[]⟩ ([sCustom, sHashes, sLength]) ([V.mk (1) (1) (⟨#[]⟩) ([]) ([]), V.mk 5 0 ⟨#[]⟩ ([⟨#[115, 104, 97, 50, 53, 54]⟩]) ([V.mk (3) (0) (⟨#[97, 98]⟩) ([]) ([])]), V.mk (2) (3) (⟨#[]⟩) ([]) ([])]))) ((recV (ofRV ((V.mk 5 0 ⟨#[]⟩ ([sCustom, sHashes, sLength]) ([V.mk (1) (1) (⟨#[]⟩) ([]) ([]), V.mk 5 0 ⟨#[]⟩ ([⟨#[115, 104, 97, 50, 53, 54]⟩]) ([V.mk (3) (0) (⟨#[97, 98]⟩) ([]) ([])]), V.mk (2) (3) (⟨#[]⟩) ([]) ([])]))))))))) rfl (hlc rfl) (fun hg => sp_call2 (φ1 := IsD (SF w [b8_21, b6_17, b5_14, b4_11, b3_8, b2_4, b1_4]) (V.d ((V.mk 5 0 ⟨#[]⟩ ([sCustom, sHashes, sLength]) ([V.mk (1) (1) (⟨#[]⟩) ([]) ([]), V.mk 5 0 ⟨#[]⟩ ([⟨#[115, 104, 97, 50, 53, 54]⟩]) ([V.mk (3) (0) (⟨#[97, 98]⟩) ([]) ([])]), V.mk (2) (3) (⟨#[]⟩) ([]) ([])]))))) (φ2 := IsD (SF w [b8_21, b6_17, b5_14, b4_11, b3_8, b2_4, b1_4]) (V.d ((recV (ofRV ((V.mk 5 0 ⟨#[]⟩ ([sCustom, sHashes, sLength]) ([V.mk (1) (1) (⟨#[]⟩) ([]) ([]), V.mk 5 0 ⟨#[]⟩ ([⟨#[115, 104, 97, 50, 53, 54]⟩]) ([V.mk (3) (0) (⟨#[97, 98]⟩) ([]) ([])]), V.mk (2) (3) (⟨#[]⟩) ([]) ([])])))))))) ent34 (((hlc rfl).undE hg).dat (rdV_in (x := (V.mk 5 0 ⟨#[]⟩ ([sCustom, sHashes, sLength]) ([V.mk (1) (1) (⟨#[]⟩) ([]) ([]), V.mk 5 0 ⟨#[]⟩ ([⟨#[115, 104, 97, 50, 53, 54]⟩]) ([V.mk (3) (0) (⟨#[97, 98]⟩) ([]) ([])]), V.mk (2) (3) (⟨#[]⟩) ([]) ([])]))) ht_v33_14 D_cn33_14 D_ci33_14 : Rd W31 (SF w [b8_21, b6_17, b5_14, b4_11, b3_8, b2_4, b1_4]) (V.d ((V.mk 5 0 ⟨#[]⟩ ([sCustom, sHashes, sLength]) ([V.mk (1) (1) (⟨#[]⟩) ([]) ([]), V.mk 5 0 ⟨#[]⟩ ([⟨#[115, 104, 97, 50, 53, 54]⟩]) ([V.mk (3) (0) (⟨#[97, 98]⟩) ([]) ([])]), V.mk (2) (3) (⟨#[]⟩) ([]) ([])])))) _) sub_all) (((hlc rfl).undE hg).dat (rdV_in (x := (recV (ofRV ((V.mk 5 0 ⟨#[]⟩ ([sCustom, sHashes, sLength]) ([V.mk (1) (1) (⟨#[]⟩) ([]) ([]), V.mk 5 0 ⟨#[]⟩ ([⟨#[115, 104, 97, 50, 53, 54]⟩]) ([V.mk (3) (0) (⟨#[97, 98]⟩) ([]) ([])]), V.mk (2) (3) (⟨#[]⟩) ([]) ([])])))))) ht_v42_21 D_cn42_21 D_ci42_21 : Rd W31 (SF w [b8_21, b6_17, b5_14, b4_11, b3_8, b2_4, b1_4]) (V.d ((recV (ofRV ((V.mk 5 0 ⟨#[]⟩ ([sCustom, sHashes, sLength]) ([V.mk (1) (1) (⟨#[]⟩) ([]) ([]), V.mk 5 0 ⟨#[]⟩ ([⟨#[115, 104, 97, 50, 53, 54]⟩]) ([V.mk (3) (0) (⟨#[97, 98]⟩) ([]) ([])]), V.mk (2) (3) (⟨#[]⟩) ([]) ([])]))))))) _) sub_all) (fun g u1 u2 W hk hgk h1 h2 => refSame_all _ ((V.mk 5 0 ⟨#[]⟩ ([sCustom, sHashes, sLength]) ([V.mk (1) (1) (⟨#[]⟩) ([]) ([]), V.mk 5 0 ⟨#[]⟩ ([⟨#[115, 104, 97, 50, 53, 54]⟩]) ([V.mk (3) (0) (⟨#[97, 98]⟩) ([]) ([])]), V.mk (2) (3) (⟨#[]⟩) ([]) ([])]))) ((recV (ofRV ((V.mk 5 0 ⟨#[]⟩ ([sCustom, sHashes, sLength]) ([V.mk (1) (1) (⟨#[]⟩) ([]) ([]), V.mk 5 0 ⟨#[]⟩ ([⟨#[115, 104, 97, 50, 53, 54]⟩]) ([V.mk (3) (0) (⟨#[97, 98]⟩) ([]) ([])]), V.mk (2) (3) (⟨#[]⟩) ([]) ([])])))))) (Nat.le_refl _) (by first | omega | exact Nat.le_of_ble_eq_true (by kernel_rfl)) W _ _ _ h1 h2)) ?_
  refine .i (sp_and (hlc rfl) ((hlc rfl).weak fun hq => hq)) ?_
  refine .i (sp_move (hlc rfl)) ?_
  refine .e (t := 91) rfl (hlc rfl) (fun hg => sp_move (hbs rfl e11)) ?_
  refine .e (t := 91) rfl (hlc rfl) (fun hg => sp_eql ((hlc rfl).undE hg) Has.cst) ?_
  refine .i (sp_and (hlc rfl) ((hlc rfl).weak fun hq => hq)) ?_
  refine .i (sp_move (hlc rfl)) ?_
  refine .e (t := 95) rfl (hlc rfl) (fun hg => sp_move (hbs rfl e13)) ?_
  refine .e (t := 95) rfl (hlc rfl) (fun hg => sp_eql ((hlc rfl).undE hg) Has.cst) ?_
  refine .i (sp_and (hlc rfl) ((hlc rfl).weak fun hq => hq)) ?_
  refine .i (sp_move (hlc rfl)) ?_
  refine .e (t := 99) rfl (hlc rfl) (fun hg => sp_move (hbs rfl e15)) ?_
  refine .e (t := 99) rfl (hlc rfl) (fun hg => sp_eql ((hlc rfl).undE hg) Has.cst) ?_
  refine .i (sp_and (hlc rfl) ((hlc rfl).weak fun hq => hq)) ?_
  refine .i (sp_move (hlc rfl)) ?_
  refine .opE (t := 103) (φ := _) rfl (hlc rfl) (st_is _) (fun hg => sp_move (hbs rfl e16)) ?_
  refine .e (t := 103) rfl (hlc rfl) (fun hg => sp_sEql ((hlc rfl).undE hg) Has.cst) ?_
  refine .i (sp_and (hlc rfl) ((hlc rfl).weak fun hq => hq)) ?_
  refine .i (sp_move (hlc rfl)) ?_
  refine .opE (t := 107) (φ := _) rfl (hlc rfl) (st_is _) (fun hg => sp_move (hbs rfl e17)) ?_
  refine .i (sp_and (hlc rfl) ((hlc rfl).weak fun hq => hq)) ?_
  refine .i (sp_move (hlc rfl)) ?_
  refine .e (t := 110) (v := (.agg #[(.int .i64 ((ofRV ((V.mk 5 0 ⟨#[]⟩ ([sCustom, sHashes, sLength]) ([V.mk (1) (1) (⟨#[]⟩) ([]) ([]), V.mk 5 0 ⟨#[]⟩ ([⟨#[115, 104, 97, 50, 53, 54]⟩]) ([V.mk (3) (0) (⟨#[97, 98]⟩) ([]) ([])]), V.mk (2) (3) (⟨#[]⟩) ([]) ([])])))).ln)), (.slice v37_17_1a (((ofRV ((V.mk 5 0 ⟨#[]⟩ ([sCustom, sHashes, sLength]) ([V.mk (1) (1) (⟨#[]⟩) ([]) ([]), V.mk 5 0 ⟨#[]⟩ ([⟨#[115, 104, 97, 50, 53, 54]⟩]) ([V.mk (3) (0) (⟨#[97, 98]⟩) ([]) ([])]), V.mk (2) (3) (⟨#[]⟩) ([]) ([])])))).hs).length) v37_17_1c), (.int .u8 ((ofRV ((V.mk 5 0 ⟨#[]⟩ ([sCustom, sHashes, sLength]) ([V.mk (1) (1) (⟨#[]⟩) ([]) ([]), V.mk 5 0 ⟨#[]⟩ ([⟨#[115, 104, 97, 50, 53, 54]⟩]) ([V.mk (3) (0) (⟨#[97, 98]⟩) ([]) ([])]), V.mk (2) (3) (⟨#[]⟩) ([]) ([])])))).cu.k)), (.int .i64 ((ofRV ((V.mk 5 0 ⟨#[]⟩ ([sCustom, sHashes, sLength]) ([V.mk (1) (1) (⟨#[]⟩) ([]) ([]), V.mk 5 0 ⟨#[]⟩ ([⟨#[115, 104, 97, 50, 53, 54]⟩]) ([V.mk (3) (0) (⟨#[97, 98]⟩) ([]) ([])]), V.mk (2) (3) (⟨#[]⟩) ([]) ([])])))).cu.n)), (.string ((ofRV ((V.mk 5 0 ⟨#[]⟩ ([sCustom, sHashes, sLength]) ([V.mk (1) (1) (⟨#[]⟩) ([]) ([]), V.mk 5 0 ⟨#[]⟩ ([⟨#[115, 104, 97, 50, 53, 54]⟩]) ([V.mk (3) (0) (⟨#[97, 98]⟩) ([]) ([])]), V.mk (2) (3) (⟨#[]⟩) ([]) ([])])))).cu.t)), (.slice v37_17_5a (((ofRV ((V.mk 5 0 ⟨#[]⟩ ([sCustom, sHashes, sLength]) ([V.mk (1) (1) (⟨#[]⟩) ([]) ([]), V.mk 5 0 ⟨#[]⟩ ([⟨#[115, 104, 97, 50, 53, 54]⟩]) ([V.mk (3) (0) (⟨#[97, 98]⟩) ([]) ([])]), V.mk (2) (3) (⟨#[]⟩) ([]) ([])])))).cu.ns).length) v37_17_5c), (.slice v37_17_6a (((ofRV ((V.mk 5 0 ⟨#[]⟩ ([sCustom, sHashes, sLength]) ([V.mk (1) (1) (⟨#[]⟩) ([]) ([]), V.mk 5 0 ⟨#[]⟩ ([⟨#[115, 104, 97, 50, 53, 54]⟩]) ([V.mk (3) (0) (⟨#[97, 98]⟩) ([]) ([])]), V.mk (2) (3) (⟨#[]⟩) ([]) ([])])))).cu.xs).length) v37_17_6c)])) rfl (hlc rfl) (fun hg => loA (hbs rfl e6) own_b6_17 trivial agg87 sz87 rfl rfl) ?_
  refine .e (t := 110) (v := (.agg #[(.int .i64 ((Rc.mk (3) ([Hs.mk (⟨#[115, 104, 97, 50, 53, 54]⟩) (⟨#[97, 98]⟩)]) (V.mk (1) (1) (⟨#[]⟩) ([]) ([]))).ln)), (.slice v24_11_1a (((Rc.mk (3) ([Hs.mk (⟨#[115, 104, 97, 50, 53, 54]⟩) (⟨#[97, 98]⟩)]) (V.mk (1) (1) (⟨#[]⟩) ([]) ([]))).hs).length) v24_11_1c), (.int .u8 ((Rc.mk (3) ([Hs.mk (⟨#[115, 104, 97, 50, 53, 54]⟩) (⟨#[97, 98]⟩)]) (V.mk (1) (1) (⟨#[]⟩) ([]) ([]))).cu.k)), (.int .i64 ((Rc.mk (3) ([Hs.mk (⟨#[115, 104, 97, 50, 53, 54]⟩) (⟨#[97, 98]⟩)]) (V.mk (1) (1) (⟨#[]⟩) ([]) ([]))).cu.n)), (.string ((Rc.mk (3) ([Hs.mk (⟨#[115, 104, 97, 50, 53, 54]⟩) (⟨#[97, 98]⟩)]) (V.mk (1) (1) (⟨#[]⟩) ([]) ([]))).cu.t)), (.slice v24_11_5a (((Rc.mk (3) ([Hs.mk (⟨#[115, 104, 97, 50, 53, 54]⟩) (⟨#[97, 98]⟩)]) (V.mk (1) (1) (⟨#[]⟩) ([]) ([]))).cu.ns).length) v24_11_5c), (.slice v24_11_6a (((Rc.mk (3) ([Hs.mk (⟨#[115, 104, 97, 50, 53, 54]⟩) (⟨#[97, 98]⟩)]) (V.mk (1) (1) (⟨#[]⟩) ([]) ([]))).cu.xs).length) v24_11_6c)])) rfl (hlc rfl) (fun hg => loA (hbs rfl e4) own_b4_11 trivial agg87 sz87 rfl rfl) ?_
  refine .e (t := 110) (v := (.bool (sameR (ofRV ((V.mk 5 0 ⟨#[]⟩ ([sCustom, sHashes, sLength]) ([V.mk (1) (1) (⟨#[]⟩) ([]) ([]), V.mk 5 0 ⟨#[]⟩ ([⟨#[115, 104, 97, 50, 53, 54]⟩]) ([V.mk (3) (0) (⟨#[97, 98]⟩) ([]) ([])]), V.mk (2) (3) (⟨#[]⟩) ([]) ([])])))) (Rc.mk (3) ([Hs.mk (⟨#[115, 104, 97, 50, 53, 54]⟩) (⟨#[97, 98]⟩)]) (V.mk (1) (1) (⟨#[]⟩) ([]) ([])))))) rfl (hlc rfl) (fun hg => sp_call2 (φ1 := IsD (SF w [b8_21, b6_17, b5_14, b4_11, b3_8, b2_4, b1_4]) (Rc.d ((ofRV ((V.mk 5 0 ⟨#[]⟩ ([sCustom, sHashes, sLength]) ([V.mk (1) (1) (⟨#[]⟩) ([]) ([]), V.mk 5 0 ⟨#[]⟩ ([⟨#[115, 104, 97, 50, 53, 54]⟩]) ([V.mk (3) (0) (⟨#[97, 98]⟩) ([]) ([])]), V.mk (2) (3) (⟨#[]⟩) ([]) ([])]))))))) (φ2 := IsD (SF w [b8_21, b6_17, b5_14, b4_11, b3_8, b2_4, b1_4]) (Rc.d ((Rc.mk (3) ([Hs.mk (⟨#[115, 104, 97, 50, 53, 54]⟩) (⟨#[97, 98]⟩)]) (V.mk (1) (1) (⟨#[]⟩) ([]) ([])))))) ent59 (((hlc rfl).undE hg).dat (rdRc_mk D_v37_17_1 (rdV_in (x := (ofRV ((V.mk 5 0 ⟨#[]⟩ ([sCustom, sHashes, sLength]) ([V.mk (1) (1) (⟨#[]⟩) ([]) ([]), V.mk 5 0 ⟨#[]⟩ ([⟨#[115, 104, 97, 50, 53, 54]⟩]) ([V.mk (3) (0) (⟨#[97, 98]⟩) ([]) ([])]), V.mk (2) (3) (⟨#[]⟩) ([]) ([])])))).cu) hb_v37_17_4 D_v37_17_5 D_v37_17_6 : Rd W31 (SF w [b8_21, b6_17, b5_14, b4_11, b3_8, b2_4, b1_4]) (V.d ((ofRV ((V.mk 5 0 ⟨#[]⟩ ([sCustom, sHashes, sLength]) ([V.mk (1) (1) (⟨#[]⟩) ([]) ([]), V.mk 5 0 ⟨#[]⟩ ([⟨#[115, 104, 97, 50, 53, 54]⟩]) ([V.mk (3) (0) (⟨#[97, 98]⟩) ([]) ([])]), V.mk (2) (3) (⟨#[]⟩) ([]) ([])])))).cu)) _) : Rd W31 (SF w [b8_21, b6_17, b5_14, b4_11, b3_8, b2_4, b1_4]) (Rc.d ((ofRV ((V.mk 5 0 ⟨#[]⟩ ([sCustom, sHashes, sLength]) ([V.mk (1) (1) (⟨#[]⟩) ([]) ([]), V.mk 5 0 ⟨#[]⟩ ([⟨#[115, 104, 97, 50, 53, 54]⟩]) ([V.mk (3) (0) (⟨#[97, 98]⟩) ([]) ([])]), V.mk (2) (3) (⟨#[]⟩) ([]) ([])])))))) _) sub_all) (((hlc rfl).undE hg).dat (rdRc_mk D_v24_11_1 (rdV_in (x := (Rc.mk (3) ([Hs.mk (⟨#[115, 104, 97, 50, 53, 54]⟩) (⟨#[97, 98]⟩)]) (V.mk (1) (1) (⟨#[]⟩) ([]) ([]))).cu) hb_v24_11_4 D_v24_11_5 D_v24_11_6 : Rd W31 (SF w [b8_21, b6_17, b5_14, b4_11, b3_8, b2_4, b1_4]) (V.d ((Rc.mk (3) ([Hs.mk (⟨#[115, 104, 97, 50, 53, 54]⟩) (⟨#[97, 98]⟩)]) (V.mk (1) (1) (⟨#[]⟩) ([]) ([]))).cu)) _) : Rd W31 (SF w [b8_21, b6_17, b5_14, b4_11, b3_8, b2_4, b1_4]) (Rc.d ((Rc.mk (3) ([Hs.mk (⟨#[115, 104, 97, 50, 53, 54]⟩) (⟨#[97, 98]⟩)]) (V.mk (1) (1) (⟨#[]⟩) ([]) ([]))))) _) sub_all) (fun g u1 u2 W hk hgk h1 h2 => SameR_ok ((ofRV ((V.mk 5 0 ⟨#[]⟩ ([sCustom, sHashes, sLength]) ([V.mk (1) (1) (⟨#[]⟩) ([]) ([]), V.mk 5 0 ⟨#[]⟩ ([⟨#[115, 104, 97, 50, 53, 54]⟩]) ([V.mk (3) (0) (⟨#[97, 98]⟩) ([]) ([])]), V.mk (2) (3) (⟨#[]⟩) ([]) ([])]))))) ((Rc.mk (3) ([Hs.mk (⟨#[115, 104, 97, 50, 53, 54]⟩) (⟨#[97, 98]⟩)]) (V.mk (1) (1) (⟨#[]⟩) ([]) ([])))) (Nat.le_of_ble_eq_true (by kernel_rfl)) (Nat.le_of_ble_eq_true (by kernel_rfl)) W _ _ _ (fun b o h => h.1.2.1) h1 h2)) ?_
  refine .i (sp_and (hlc rfl) ((hlc rfl).weak fun hq => hq)) ?_
  refine .i (sp_move (hlc rfl)) ?_
  refine .e (t := 115) (v := (.agg #[(.int .i64 ((ofRV ((V.mk 5 0 ⟨#[]⟩ ([sCustom, sHashes, sLength]) ([V.mk (1) (1) (⟨#[]⟩) ([]) ([]), V.mk 5 0 ⟨#[]⟩ ([⟨#[115, 104, 97, 50, 53, 54]⟩]) ([V.mk (3) (0) (⟨#[97, 98]⟩) ([]) ([])]), V.mk (2) (3) (⟨#[]⟩) ([]) ([])])))).ln)), (.slice v37_17_1a (((ofRV ((V.mk 5 0 ⟨#[]⟩ ([sCustom, sHashes, sLength]) ([V.mk (1) (1) (⟨#[]⟩) ([]) ([]), V.mk 5 0 ⟨#[]⟩ ([⟨#[115, 104, 97, 50, 53, 54]⟩]) ([V.mk (3) (0) (⟨#[97, 98]⟩) ([]) ([])]), V.mk (2) (3) (⟨#[]⟩) ([]) ([])])))).hs).length) v37_17_1c), (.int .u8 ((ofRV ((V.mk 5 0 ⟨#[]⟩ ([sCustom, sHashes, sLength]) ([V.mk (1) (1) (⟨#[]⟩) ([]) ([]), V.mk 5 0 ⟨#[]⟩ ([⟨#[115, 104, 97, 50, 53, 54]⟩]) ([V.mk (3) (0) (⟨#[97, 98]⟩) ([]) ([])]), V.mk (2) (3) (⟨#[]⟩) ([]) ([])])))).cu.k)), (.int .i64 ((ofRV ((V.mk 5 0 ⟨#[]⟩ ([sCustom, sHashes, sLength]) ([V.mk (1) (1) (⟨#[]⟩) ([]) ([]), V.mk 5 0 ⟨#[]⟩ ([⟨#[115, 104, 97, 50, 53, 54]⟩]) ([V.mk (3) (0) (⟨#[97, 98]⟩) ([]) ([])]), V.mk (2) (3) (⟨#[]⟩) ([]) ([])])))).cu.n)), (.string ((ofRV ((V.mk 5 0 ⟨#[]⟩ ([sCustom, sHashes, sLength]) ([V.mk (1) (1) (⟨#[]⟩) ([]) ([]), V.mk 5 0 ⟨#[]⟩ ([⟨#[115, 104, 97, 50, 53, 54]⟩]) ([V.mk (3) (0) (⟨#[97, 98]⟩) ([]) ([])]), V.mk (2) (3) (⟨#[]⟩) ([]) ([])])))).cu.t)), (.slice v37_17_5a (((ofRV ((V.mk 5 0 ⟨#[]⟩ ([sCustom, sHashes, sLength]) ([V.mk (1) (1) (⟨#[]⟩) ([]) ([]), V.mk 5 0 ⟨#[]⟩ ([⟨#[115, 104, 97, 50, 53, 54]⟩]) ([V.mk (3) (0) (⟨#[97, 98]⟩) ([]) ([])]), V.mk (2) (3) (⟨#[]⟩) ([]) ([])])))).cu.ns).length) v37_17_5c), (.slice v37_17_6a (((ofRV ((V.mk 5 0 ⟨#[]⟩ ([sCustom, sHashes, sLength]) ([V.mk (1) (1) (⟨#[]⟩) ([]) ([]), V.mk 5 0 ⟨#[]⟩ ([⟨#[115, 104, 97, 50, 53, 54]⟩]) ([V.mk (3) (0) (⟨#[97, 98]⟩) ([]) ([])]), V.mk (2) (3) (⟨#[]⟩) ([]) ([])])))).cu.xs).length) v37_17_6c)])) rfl (hlc rfl) (fun hg => loA (hbs rfl e6) own_b6_17 trivial agg87 sz87 rfl rfl) ?_
  refine .e (t := 115) (v := (.agg #[(.int .i64 (0)), (.slice none 0 0), (.int .u8 (0)), (.int .i64 (0)), (.string (⟨#[]⟩)), (.slice none 0 0), (.slice none 0 0)])) rfl (hlc rfl) (fun hg => sp_build (vs := []) Try.underlying87 z87 (pl87 Try.underlying87) trivial rfl) ?_
  refine .e (t := 115) (v := (.bool (sameR (ofRV ((V.mk 5 0 ⟨#[]⟩ ([sCustom, sHashes, sLength]) ([V.mk (1) (1) (⟨#[]⟩) ([]) ([]), V.mk 5 0 ⟨#[]⟩ ([⟨#[115, 104, 97, 50, 53, 54]⟩]) ([V.mk (3) (0) (⟨#[97, 98]⟩) ([]) ([])]), V.mk (2) (3) (⟨#[]⟩) ([]) ([])])))) (Rc.mk (0) ([]) (V.mk (0) (0) (⟨#[]⟩) ([]) ([])))))) rfl (hlc rfl) (fun hg => sp_call2 (φ1 := IsD (SF w [b8_21, b6_17, b5_14, b4_11, b3_8, b2_4, b1_4]) (Rc.d ((ofRV ((V.mk 5 0 ⟨#[]⟩ ([sCustom, sHashes, sLength]) ([V.mk (1) (1) (⟨#[]⟩) ([]) ([]), V.mk 5 0 ⟨#[]⟩ ([⟨#[115, 104, 97, 50, 53, 54]⟩]) ([V.mk (3) (0) (⟨#[97, 98]⟩) ([]) ([])]), V.mk (2) (3) (⟨#[]⟩) ([]) ([])]))))))) (φ2 := IsD (SF w [b8_21, b6_17, b5_14, b4_11, b3_8, b2_4, b1_4]) (Rc.d (Rc.mk (0) ([]) (V.mk (0) (0) (⟨#[]⟩) ([]) ([]))))) ent59 (((hlc rfl).undE hg).dat (rdRc_mk D_v37_17_1 (rdV_in (x := (ofRV ((V.mk 5 0 ⟨#[]⟩ ([sCustom, sHashes, sLength]) ([V.mk (1) (1) (⟨#[]⟩) ([]) ([]), V.mk 5 0 ⟨#[]⟩ ([⟨#[115, 104, 97, 50, 53, 54]⟩]) ([V.mk (3) (0) (⟨#[97, 98]⟩) ([]) ([])]), V.mk (2) (3) (⟨#[]⟩) ([]) ([])])))).cu) hb_v37_17_4 D_v37_17_5 D_v37_17_6 : Rd W31 (SF w [b8_21, b6_17, b5_14, b4_11, b3_8, b2_4, b1_4]) (V.d ((ofRV ((V.mk 5 0 ⟨#[]⟩ ([sCustom, sHashes, sLength]) ([V.mk (1) (1) (⟨#[]⟩) ([]) ([]), V.mk 5 0 ⟨#[]⟩ ([⟨#[115, 104, 97, 50, 53, 54]⟩]) ([V.mk (3) (0) (⟨#[97, 98]⟩) ([]) ([])]), V.mk (2) (3) (⟨#[]⟩) ([]) ([])])))).cu)) _) : Rd W31 (SF w [b8_21, b6_17, b5_14, b4_11, b3_8, b2_4, b1_4]) (Rc.d ((ofRV ((V.mk 5 0 ⟨#[]⟩ ([sCustom, sHashes, sLength]) ([V.mk (1) (1) (⟨#[]⟩) ([]) ([]), V.mk 5 0 ⟨#[]⟩ ([⟨#[115, 104, 97, 50, 53, 54]⟩]) ([V.mk (3) (0) (⟨#[97, 98]⟩) ([]) ([])]), V.mk (2) (3) (⟨#[]⟩) ([]) ([])])))))) _) sub_all) (((hlc rfl).undE hg).dat (rdRc_mk (rd_nil _) (rdV_mk (lbr rfl) (rd_nil _) (rd_nil _) : Rd W31 (SF w [b8_21, b6_17, b5_14, b4_11, b3_8, b2_4, b1_4]) (V.d (V.mk (0) (0) (⟨#[]⟩) ([]) ([]))) _) : Rd W31 (SF w [b8_21, b6_17, b5_14, b4_11, b3_8, b2_4, b1_4]) (Rc.d (Rc.mk (0) ([]) (V.mk (0) (0) (⟨#[]⟩) ([]) ([])))) _) sub_all) (fun g u1 u2 W hk hgk h1 h2 => SameR_ok ((ofRV ((V.mk 5 0 ⟨#[]⟩ ([sCustom, sHashes, sLength]) ([V.mk (1) (1) (⟨#[]⟩) ([]) ([]), V.mk 5 0 ⟨#[]⟩ ([⟨#[115, 104, 97, 50, 53, 54]⟩]) ([V.mk (3) (0) (⟨#[97, 98]⟩) ([]) ([])]), V.mk (2) (3) (⟨#[]⟩) ([]) ([])]))))) (Rc.mk (0) ([]) (V.mk (0) (0) (⟨#[]⟩) ([]) ([]))) (Nat.le_of_ble_eq_true (by kernel_rfl)) (Nat.le_of_ble_eq_true (by kernel_rfl)) W _ _ _ (fun b o h => h.1.2.1) h1 h2)) ?_
  refine .opE (t := 115) (φ := _) rfl (hlc rfl) (st_is _) (fun hg => sp_not ((hlc rfl).undE hg)) ?_
  refine .i (sp_and (hlc rfl) ((hlc rfl).weak fun hq => hq)) ?_
  refine .i (sp_assign (hlc rfl)) ?_
  refine .done ⟨by kernel_rfl, fun a33 g W33 y33 zz33 hk hg hV hR hP => ?_⟩
  obtain ⟨e0, -, -, -, -, -, -, -, -, -, -, -, -, -, -, -, -, -, -, -, -, -, -, -, -, -, -, -, -, -, -, -, -, -, -, -, -, -, -, -, -, -, -, -, -, -, -, -, -, -, -, -⟩ := hV
  replace D_v24_11_1 := D_v24_11_1.ext hk
  replace D_v24_11_5 := D_v24_11_5.ext hk
  replace D_v24_11_6 := D_v24_11_6.ext hk
  replace D_cn33_14 := D_cn33_14.ext hk
  replace D_ci33_14 := D_ci33_14.ext hk
  replace D_v37_17_1 := D_v37_17_1.ext hk
  replace D_v37_17_5 := D_v37_17_5.ext hk
  replace D_v37_17_6 := D_v37_17_6.ext hk
  replace D_cn42_21 := D_cn42_21.ext hk
  replace D_ci42_21 := D_ci42_21.ext hk
  replace e0 := e0.q
  replace own_b2_4 := own_b2_4.ext hk
  replace own_b1_4 := own_b1_4.ext hk
  replace own_b3_8 := own_b3_8.ext hk
  replace own_b4_11 := own_b4_11.ext hk
  replace own_b5_14 := own_b5_14.ext hk
  replace own_b6_17 := own_b6_17.ext hk
  replace own_b8_21 := own_b8_21.ext hk
  replace kw := kw.x hk
  clear hR hk hg hP
  refine tail_nil (hK32 _ _ ?_)
  refine wp_ret ?_
  refine (show bodyPost Try.prog Try.f68 _ .ret _ _ from ret1 rfl zz33 e0 ⟨_, rfl, kw, ?_⟩)
  exact congrArg Value.bool (by kernel_rfl)
end Go.Proofs.Ytnobijngkpflcaa
namespace Go.Eng
structure Ro where
  v : V
  e : Int
def Ro.d (a : Ro) : D := .agg [a.v.d, .int .i64 a.e]
def rosD (l : List Ro) : D := .lst 6 (l.map Ro.d)
section
variable {W : World} {S : BSet} {v : Value}
theorem rdRos_out {l : List Ro} (h : Rd W S (rosD l) v) : ∃ ad cap, v = .slice ad l.length cap ∧ Rd W S (rosD l) (.slice ad l.length cap) := rdL_out (by simp) h
theorem rdRo_out {a : Ro} (h : Rd W S a.d v) : ∃ a1 c1 a2 c2, v = .agg #[.int .u8 a.v.k, .int .i64 a.v.n, .string a.v.t, .slice a1 a.v.ns.length c1, .slice a2 a.v.xs.length c2, .int .i64 a.e] ∧ a.v.t.size ≤ maxLen ∧ Rd W S (strsD a.v.ns) (.slice a1 a.v.ns.length c1) ∧ Rd W S (valsD a.v.xs) (.slice a2 a.v.xs.length c2) := by
  obtain ⟨cs, h1, rfl⟩ := h
  simp only [Ro.d, RdC, RdF] at h1
  obtain ⟨c1, _, rfl, h3, _, _, rfl, rfl, rfl⟩ := h1
  obtain ⟨a1, c1, a2, c2', rfl, h4, h5, h6⟩ := vcells h3
  exact ⟨a1, c1, a2, c2', rfl, h4, h5, h6⟩
theorem rdRo_mk {e : Int} {x : V} {c1 c2 c3 c4 c5 : Value} (hv : Rd W S x.d (.agg #[c1, c2, c3, c4, c5])) : Rd W S (Ro.d ⟨x, e⟩) (.agg #[c1, c2, c3, c4, c5, .int .i64 e]) :=
  ⟨[c1, c2, c3, c4, c5, .int .i64 e], by simp only [Ro.d, RdC, RdF]; exact ⟨[c1, c2, c3, c4, c5], [_], rfl, rdcV hv, [_], [], rfl, rfl, rfl⟩, rfl⟩
theorem width_Ro (a : Ro) : width a.d = 6 := by simp [Ro.d, width, widths, width_V]
end
theorem zRo (W : World) (X : BSet) : RdF W X [V.d V.zero, .int .i64 0] [.int .u8 0, .int .i64 0, .string ⟨#[]⟩, .slice none 0 0, .slice none 0 0, .int .i64 0] := ⟨[_, _, _, _, _], [_], rfl, rdC_zV W X, [_], [], rfl, rfl, rfl⟩
end Go.Eng
namespace Go.Eng
structure Rh where
  l : List Hs
  v : Bool
def Rh.d (a : Rh) : D := .agg [hssD a.l, .bool a.v]
def rhsD (l : List Rh) : D := .lst 2 (l.map Rh.d)
section
variable {W : World} {S : BSet} {v : Value}
theorem rdRhs_out {l : List Rh} (h : Rd W S (rhsD l) v) : ∃ ad cap, v = .slice ad l.length cap ∧ Rd W S (rhsD l) (.slice ad l.length cap) := rdL_out (by simp) h
theorem rdRh_out {a : Rh} (h : Rd W S a.d v) : ∃ a1 c1, v = .agg #[.slice a1 a.l.length c1, .bool a.v] ∧ Rd W S (hssD a.l) (.slice a1 a.l.length c1) := by
  obtain ⟨cs, h1, rfl⟩ := h
  simp only [Rh.d, RdC, RdF] at h1
  obtain ⟨c2, _, rfl, h2, _, _, rfl, rfl, rfl⟩ := h1
  obtain ⟨c, rfl⟩ : ∃ c, c2 = [c] := by simp only [hssD, RdC] at h2; obtain ⟨a, cap, e, _⟩ := h2; exact ⟨_, e⟩
  obtain ⟨a0, c0, e0, h5⟩ := rdHss_out (rd_one1 h2 rfl)
  subst e0
  exact ⟨a0, c0, rfl, h5⟩
theorem rdRh_mk {l : List Hs} {b : Bool} {c : Value} (h : Rd W S (hssD l) c) : Rd W S (Rh.d ⟨l, b⟩) (.agg #[c, .bool b]) :=
  ⟨[c, .bool b], by simp only [Rh.d, RdC, RdF]; exact ⟨[c], [_], rfl, rdc_one1 h rfl, [_], [], rfl, rfl, rfl⟩, rfl⟩
theorem width_Rh (a : Rh) : width a.d = 2 := rfl
end
theorem zRh (W : World) (X : BSet) : RdF W X [hssD [], .bool false] [.slice none 0 0, .bool false] := ⟨[_], [_], rfl, rdc_one1 (rd_nil _) rfl, [_], [], rfl, rfl, rfl⟩
section
variable {P : Program} {ops : Array Oper} {S : Nat → Prop} {w0 : World} {a0 : Act} {Γ : Ctx}
variable {d : Option Tmp} {ty : TypeId} {pos : String} {af : Array Edge} {gd : Option (Nat × Bool)}
theorem Has.boo {x : Operand} {b : Bool} {X : BSet} (h : Has S w0 a0 Γ x (Is (.bool b))) : Has S w0 a0 Γ x (IsD X (.bool b)) := h.imp fun _ _ _ _ _ hu => ⟨[.bool b], rfl, hu⟩
theorem sp_sliceDB {x y : Operand} {T E : TypeId} {X : BSet} {h : Nat} {j : Int} {xs : List Int} (hT : P.underlying T = some (.slice E)) (hz : szOf P E = some 1) (hx : Has S w0 a0 Γ x (IsD X (bytesD xs))) (hy : Has S w0 a0 Γ y (Is (.int .i64 j))) (hj : j = h) (hh : h ≤ xs.length) (hne : 0 < xs.length) :
    Spec P ops S w0 a0 Γ ⟨d, .slice T x none (some y) none, ty, pos, af, gd⟩ (IsD X (bytesD (xs.take h))) := by
  have := sp_sliceDHi (ty := ty) (pos := pos) (af := af) (gd := gd) (d := d) (ops := ops) (P := P) (X := X) (ds := xs.map (D.int .u8)) hT hz hx hy hj (by simpa using hh) (by simpa using hne)
  rw [← List.map_take] at this; exact this
end
def deepN : Nat → V
  | 0 => V.mk 4 0 ⟨#[]⟩ [] []
  | n + 1 => V.mk 4 0 ⟨#[]⟩ [] [deepN n]
def rowH (r : Rh) : Bool := (mayH r.l == r.v) && (mayR ⟨0, r.l, ⟨0, 0, ⟨#[]⟩, [], []⟩⟩ == r.v)
theorem rowH_get {l : List Rh} (h : l.all rowH = true) {k : Nat} (hk : k < l.length) : mayH l[k].l = l[k].v ∧ mayR ⟨0, l[k].l, ⟨0, 0, ⟨#[]⟩, [], []⟩⟩ = l[k].v := by
  have h1 := List.all_eq_true.1 h _ (List.getElem_mem hk)
  simp only [rowH, Bool.and_eq_true, beq_iff_eq] at h1
  exact h1
def rowR (r : Ro) : Bool := decide (ofRE r.v = r.e) && (decide (ofRE r.v = 0) || sameR (ofRV r.v) ⟨0, [], ⟨0, 0, ⟨#[]⟩, [], []⟩⟩) && r.v.wt.ble 1000000
theorem rowR_get {l : List Ro} (h : l.all rowR = true) {k : Nat} (hk : k < l.length) : ofRE l[k].v = l[k].e ∧ (ofRE l[k].v = 0 ∨ sameR (ofRV l[k].v) ⟨0, [], ⟨0, 0, ⟨#[]⟩, [], []⟩⟩ = true) ∧ l[k].v.wt ≤ 1000000 := by
  have h1 := List.all_eq_true.1 h _ (List.getElem_mem hk)
  simp only [rowR, Bool.and_eq_true, Bool.or_eq_true, decide_eq_true_eq] at h1
  exact ⟨h1.1.1, h1.1.2, Nat.le_of_ble_eq_true h1.2⟩
theorem f4V_wt (x : V) : (f4V x).wt ≤ x.wt := by
  have h0 : V.wt ⟨0, 0, ⟨#[]⟩, [], []⟩ = 1 := rfl
  have h1 := wt_eq x
  unfold f4V
  split
  · split
    · exact getV_wt _ _
    · rw [h0]; omega
  · rw [h0]; omega
theorem ofRV_wt (x : V) : (ofRV x).cu.wt ≤ x.wt := by
  have h0 : V.wt ⟨0, 0, ⟨#[]⟩, [], []⟩ = 1 := rfl
  have h1 := wt_eq x
  unfold ofRV
  split
  · exact f4V_wt x
  · show V.wt ⟨0, 0, ⟨#[]⟩, [], []⟩ ≤ _; rw [h0]; omega
end Go.Eng
