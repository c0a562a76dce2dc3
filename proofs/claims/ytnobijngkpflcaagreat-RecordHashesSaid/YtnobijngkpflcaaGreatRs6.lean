/-
  The law RecordHashes of package legatelaw21 returns true for every input, and leaves its arguments as they were. No condition beyond the row's own.
-/
import Derived.Test.YtnobijngkpflcaaGreatRs5
import Derived.Test.YtnobijngkpflcaaGreatRows
namespace Go.Proofs.YtnobijngkpflcaaGreat
open Go.Eng
abbrev zlN (x : V) : Int := if tkB x 0 sLength (numE 0 1099511627776) then numV 0 1099511627776 (getV x sLength) else 0
abbrev zcV (x : V) : V := if tkB x (failK x.k (tkE x (tkE x 0 sLength (numE 0 1099511627776)) sHashes (obE 4)) (hsOE (f2O x))) sCustom anyE then getV x sCustom else ⟨0, 0, ⟨#[]⟩, [], []⟩
set_option maxRecDepth 100000 in
set_option maxHeartbeats 1000000 in
theorem recordOf_ok (x : V) (hx : x.wt ≤ 1073741824) (w : World) (S : BSet) (v : Value) (hS : ∀ b o, S b o → Cln o) (hv : Rd w S x.d v) : Calls Tryz.prog 22 #[v] w (Ret w fun r W => ∃ r1, r = .tuple #[r1, .int .i64 (ofRE x)] ∧ Rd W (Fr w) (Rc.d (ofRV x)) r1) := by
  by_cases hof : ofE x = 0
  · skip
    obtain ⟨cn0a, cn0c, ci0a, ci0c, ev, ht0, D_cn0, D_ci0⟩ := rdV_out (rd_arg hv)
    subst ev
    refine enter Tryz.func22 rfl Tryz.ntmps22 (lbr rfl) fun a0 y0 zz0 harg => ?_
    have e0 : sl a0 0 = (.agg #[(.int .u8 (x.k)), (.int .i64 (x.n)), (.string (x.t)), (.slice cn0a (x.ns.length) cn0c), (.slice ci0a (x.xs.length) ci0c)]) := harg 0 (lbr rfl)
    have kw := Keeps.refl All w
    clear harg
    refine zq fun K1 hK1 => ?_
    refine rg mixed y0 zz0 ?_
    refine .boxOp (v := (.agg #[(.int .u8 (x.k)), (.int .i64 (x.n)), (.string (x.t)), (.slice cn0a (x.ns.length) cn0c), (.slice ci0a (x.xs.length) ci0c)])) (hbs rfl e0) ?_
    refine .alloc z46 ?_
    refine .ac ?_
    refine .dn fun a2 g W2 y2 zz2 hk hg hV hR hP => ?_
    obtain ⟨-, ⟨b2_2, e2, hb2, own_b2_2⟩, ⟨b1_2, e1, hb1, own_b1_2⟩, -⟩ := hV
    have lo_b2_2 : w.heap.size ≤ b2_2 := Nat.le_trans kw.size (hg.lo _ _ hb2)
    have own_b2_2 : Own W2 b2_2 [(.int .i64 (0)), (.slice none 0 0), (.int .u8 (0)), (.int .i64 (0)), (.string (⟨#[]⟩)), (.slice none 0 0), (.slice none 0 0)] 46 := own_b2_2
    have lo_b1_2 : w.heap.size ≤ b1_2 := Nat.le_trans kw.size (hg.lo _ _ hb1)
    have own_b1_2 : Own W2 b1_2 [(.int .u8 (x.k)), (.int .i64 (x.n)), (.string (x.t)), (.slice cn0a (x.ns.length) cn0c), (.slice ci0a (x.xs.length) ci0c)] 26 := own_b1_2
    have ne_b2_2_b1_2 : b2_2 ≠ b1_2 := fun h => by have := hg.inj _ _ _ hb2 (h ▸ hb1); cases this
    replace D_cn0 := sa_more D_cn0 hk [b2_2, b1_2] (in_cons (hg.lo _ _ hb2) (in_cons (hg.lo _ _ hb1) in_nil))
    replace D_ci0 := sa_more D_ci0 hk [b2_2, b1_2] (in_cons (hg.lo _ _ hb2) (in_cons (hg.lo _ _ hb1) in_nil))
    replace kw := kw.x hk
    clear hR hk hg hP hb2 hb1
    refine zn (hK1 _ _ ?_)
    refine zq fun K3 hK3 => ?_
    refine zq fun K4 hK4 => ?_
    refine rg mixed y2 zz2 ?_
    refine .i (v := (.agg #[(.int .u8 (x.k)), (.int .i64 (x.n)), (.string (x.t)), (.slice cn0a (x.ns.length) cn0c), (.slice ci0a (x.xs.length) ci0c)])) (loA (hbs rfl e1) own_b1_2 trivial agg26 sz26 rfl rfl) ?_
    refine .i (v := (.bool (mayB (x)))) (sp_call1 (φ1 := IsD (SA w S [b2_2, b1_2]) (V.d (x))) ent29 ((hlc rfl).dat (rdV_in (x := x) ht0 D_cn0 D_ci0 : Rd W2 (SA w S [b2_2, b1_2]) (V.d (x)) _) sub_all) (fun g u1 W hk hgk h1 => May_ok (x) (Nat.le_trans (cnt_wt x) hx) W _ _ h1)) ?_
    refine .i (sp_not (hlc rfl)) ?_
    refine .dn fun a5 g W5 y5 zz5 hk hg hV hR hP => ?_
    obtain ⟨e10, -, -, -⟩ := hV
    replace e2 := ft hR e2
    replace e1 := ft hR e1
    replace D_cn0 := D_cn0.ext hk
    replace D_ci0 := D_ci0.ext hk
    replace e10 := e10.q
    replace own_b2_2 := own_b2_2.ext hk
    replace own_b1_2 := own_b1_2.ext hk
    replace kw := kw.x hk
    clear hR hk hg hP
    refine zn (hK4 _ _ ?_)
    refine zc e10 (fun hc => ?_) (fun hc => ?_)
    ·
     have hm : mayB x = false := by simpa using hc
     have hoe : ofRE x = 3 := by rw [ofRE, if_pos hm]
     have hov : ofRV x = ⟨0, [], ⟨0, 0, ⟨#[]⟩, [], []⟩⟩ := by rw [ofRV, hoe]; rfl
     refine zq fun K6 hK6 => ?_
     refine rg mixed y5 zz5 ?_
     refine .i (v := (.agg #[(.int .i64 (0)), (.slice none 0 0), (.int .u8 (0)), (.int .i64 (0)), (.string (⟨#[]⟩)), (.slice none 0 0), (.slice none 0 0)])) (sp_build (vs := []) Tryz.underlying46 z46 (pl46 Tryz.underlying46) trivial rfl) ?_
     refine .dn fun a7 g W7 y7 zz7 hk hg hV hR hP => ?_
     obtain ⟨e11, -⟩ := hV
     replace e2 := ft hR e2
     replace D_cn0 := D_cn0.ext hk
     replace D_ci0 := D_ci0.ext hk
     replace e11 := e11.q
     replace own_b2_2 := own_b2_2.ext hk
     replace own_b1_2 := own_b1_2.ext hk
     replace kw := kw.x hk
     clear hR hk hg hP
     refine tail_store e2 e11 sz46 rfl own_b2_2 (lbr rfl) (all_cons rfl (all_cons rfl (all_cons rfl (all_cons rfl (all_cons rfl (all_cons rfl (all_cons rfl all_nil))))))) (fun W8 hs own_b2_2 => ?_)
     have own_b2_2 : Own W8 b2_2 [(.int .i64 (0)), (.slice none 0 0), (.int .u8 (0)), (.int .i64 (0)), (.string (⟨#[]⟩)), (.slice none 0 0), (.slice none 0 0)] 46 := own_b2_2
     replace own_b1_2 := own_store own_b1_2 hs ne_b2_2_b1_2.symm
     replace D_cn0 := sa_store D_cn0 hs (by simp)
     replace D_ci0 := sa_store D_ci0 hs (by simp)
     replace kw := keeps_store kw hs lo_b2_2
     clear hs
     refine tail_assign (v := (.int .i64 (3))) rfl (by rw [y7]; exact Nat.le_of_ble_eq_true rfl) (fun a9 y9 zz9 e3 hr => ?_)
     replace y9 := y9.trans y7; replace zz9 := zz9.trans zz7
     replace e2 := (hr 2 (by decide)).trans e2
     replace e11 := (hr 11 (by decide)).trans e11
     clear hr
     refine zn (hK6 _ _ ?_)
     refine wp_ret ?_
     refine retCT (v := (.agg #[(.int .i64 (0)), (.slice none 0 0), (.int .u8 (0)), (.int .i64 (0)), (.string (⟨#[]⟩)), (.slice none 0 0), (.slice none 0 0)])) rfl zz9 e2 own_b2_2 agg46 sz46 rfl (fun h => by cases h) rfl e3 ⟨_, rfl, kw, ?_⟩
     refine ⟨_, congrArg (fun q => Value.tuple #[_, Value.int .i64 q]) hoe.symm, ?_⟩
     rw [hov]
     exact sf_fr (rdRc_mk (rd_nil _) (rdV_mk (lbr rfl) (rd_nil _) (rd_nil _) : Rd W8 (SF w [b2_2, b1_2]) (V.d (V.mk (0) (0) (⟨#[]⟩) ([]) ([]))) _) : Rd W8 (SF w [b2_2, b1_2]) (Rc.d (Rc.mk (0) ([]) (V.mk (0) (0) (⟨#[]⟩) ([]) ([])))) _)
    have hm : ¬ mayB x = false := by simpa using hc
    refine wp_skip (hK3 _ _ ?_)
    refine zq fun K10 hK10 => ?_
    refine rg mixed y5 zz5 ?_
    refine .i (v := (.agg #[(.int .u8 (x.k)), (.int .i64 (x.n)), (.string (x.t)), (.slice cn0a (x.ns.length) cn0c), (.slice ci0a (x.xs.length) ci0c)])) (loA (hbs rfl e1) own_b1_2 trivial agg26 sz26 rfl rfl) ?_
    refine .op (φ := IsPk W5 74 (x) ([]) (0)) st_pk (sp_call1 (φ1 := IsD (SA w S [b2_2, b1_2]) (V.d (x))) ent35 ((hlc rfl).dat (rdV_in (x := x) ht0 D_cn0 D_ci0 : Rd W5 (SA w S [b2_2, b1_2]) (V.d (x)) _) sub_all) (fun g u1 W hk hgk h1 => (Of_ok (x) hx hof W _ _ (fun b o h => sa_cln hS b o h.1) h1).mono (fun _ _ ⟨v, h1, h2, h3⟩ => ⟨v, h1, h2, pk_up hk h3⟩))) ?_
    refine .dn fun a11 g W11 y11 zz11 hk hg hV hR hP => ?_
    obtain ⟨e13, -, -⟩ := hV
    replace e2 := ft hR e2
    obtain ⟨bo13_11, bm13_11, cn13_11v, ci13_11v, e13, lr_bo13_11, lr_bm13_11, ne_bo13_11_bm13_11, own_bo13_11, own_bm13_11, D_cn13_11, D_ci13_11, tb13_11⟩ := e13
    obtain ⟨cn13_11a, cn13_11c, ev, D2⟩ := rdS_out D_cn13_11; subst ev; replace D_cn13_11 := D2; clear D2
    obtain ⟨ci13_11a, ci13_11c, ev, D2⟩ := rdVs_out D_ci13_11; subst ev; replace D_ci13_11 := D2; clear D2
    have e13 : sl a11 13 = (.pointer (some ⟨bo13_11, 0, none⟩)) := e13
    have lo_bo13_11 : w.heap.size ≤ bo13_11 := Nat.le_trans kw.size lr_bo13_11
    have ne_b2_2_bo13_11 : b2_2 ≠ bo13_11 := Nat.ne_of_lt (Nat.lt_of_lt_of_le own_b2_2.lt lr_bo13_11)
    have ne_b1_2_bo13_11 : b1_2 ≠ bo13_11 := Nat.ne_of_lt (Nat.lt_of_lt_of_le own_b1_2.lt lr_bo13_11)
    have lo_bm13_11 : w.heap.size ≤ bm13_11 := Nat.le_trans kw.size lr_bm13_11
    have ne_b2_2_bm13_11 : b2_2 ≠ bm13_11 := Nat.ne_of_lt (Nat.lt_of_lt_of_le own_b2_2.lt lr_bm13_11)
    have ne_b1_2_bm13_11 : b1_2 ≠ bm13_11 := Nat.ne_of_lt (Nat.lt_of_lt_of_le own_b1_2.lt lr_bm13_11)
    replace D_cn0 : Rd W11 (SA w S [bo13_11, bm13_11, b2_2, b1_2]) (strsD (x.ns)) (.slice cn0a (x.ns.length) cn0c) := sa_more D_cn0 hk [bo13_11, bm13_11] (in_cons lr_bo13_11 (in_cons lr_bm13_11 in_nil))
    replace D_ci0 : Rd W11 (SA w S [bo13_11, bm13_11, b2_2, b1_2]) (valsD (x.xs)) (.slice ci0a (x.xs.length) ci0c) := sa_more D_ci0 hk [bo13_11, bm13_11] (in_cons lr_bo13_11 (in_cons lr_bm13_11 in_nil))
    replace D_cn13_11 : Rd W11 (SF w [bo13_11, bm13_11, b2_2, b1_2]) (strsD (x.ns)) (.slice cn13_11a (x.ns.length) cn13_11c) := pk_data kw (in_cons own_b2_2.lt (in_cons own_b1_2.lt in_nil)) D_cn13_11
    replace D_ci13_11 : Rd W11 (SF w [bo13_11, bm13_11, b2_2, b1_2]) (valsD (x.xs)) (.slice ci13_11a (x.xs.length) ci13_11c) := pk_data kw (in_cons own_b2_2.lt (in_cons own_b1_2.lt in_nil)) D_ci13_11
    have own_bo13_11 : Own W11 bo13_11 [(.int .u8 (x.k)), (.int .i64 (x.n)), (.string (x.t)), (.slice cn13_11a (x.ns.length) cn13_11c), (.slice ci13_11a (x.xs.length) ci13_11c), (.map (some bm13_11)), (.int .i64 (0))] 74 := own_bo13_11
    have own_bm13_11 : OwnM W11 bm13_11 ([]) := own_bm13_11
    replace own_b2_2 := own_b2_2.ext hk
    replace own_b1_2 := own_b1_2.ext hk
    replace kw := kw.x hk
    clear hR hk hg hP lr_bo13_11 lr_bm13_11
    refine tail_assign (v := (.pointer (some ⟨bo13_11, 0, none⟩))) e13 (by rw [y11]; exact Nat.le_of_ble_eq_true rfl) (fun a12 y12 zz12 e4 hr => ?_)
    replace y12 := y12.trans y11; replace zz12 := zz12.trans zz11
    replace e2 := (hr 2 (by decide)).trans e2
    replace e13 := (hr 13 (by decide)).trans e13
    clear hr
    refine zn (hK10 _ _ ?_)
    refine zq fun K13 hK13 => ?_
    refine rg mixed y12 zz12 ?_
    refine .alloc z46 ?_
    refine .dn fun a14 g W14 y14 zz14 hk hg hV hR hP => ?_
    obtain ⟨⟨b5_14, e5, hb5, own_b5_14⟩, -⟩ := hV
    have lo_b5_14 : w.heap.size ≤ b5_14 := Nat.le_trans kw.size (hg.lo _ _ hb5)
    have ne_b2_2_b5_14 : b2_2 ≠ b5_14 := Nat.ne_of_lt (Nat.lt_of_lt_of_le own_b2_2.lt (hg.lo _ _ hb5))
    have ne_b1_2_b5_14 : b1_2 ≠ b5_14 := Nat.ne_of_lt (Nat.lt_of_lt_of_le own_b1_2.lt (hg.lo _ _ hb5))
    have ne_bo13_11_b5_14 : bo13_11 ≠ b5_14 := Nat.ne_of_lt (Nat.lt_of_lt_of_le own_bo13_11.lt (hg.lo _ _ hb5))
    have ne_bm13_11_b5_14 : bm13_11 ≠ b5_14 := Nat.ne_of_lt (Nat.lt_of_lt_of_le own_bm13_11.lt (hg.lo _ _ hb5))
    have own_b5_14 : Own W14 b5_14 [(.int .i64 (0)), (.slice none 0 0), (.int .u8 (0)), (.int .i64 (0)), (.string (⟨#[]⟩)), (.slice none 0 0), (.slice none 0 0)] 46 := own_b5_14
    replace e2 := ft hR e2
    replace e4 := ft hR e4
    replace D_cn13_11 := sf_more D_cn13_11 hk [b5_14] (in_cons (hg.lo _ _ hb5) in_nil)
    replace D_ci13_11 := sf_more D_ci13_11 hk [b5_14] (in_cons (hg.lo _ _ hb5) in_nil)
    replace own_b2_2 := own_b2_2.ext hk
    replace own_b1_2 := own_b1_2.ext hk
    replace own_bo13_11 := own_bo13_11.ext hk
    replace own_bm13_11 := own_bm13_11.ext hk
    replace kw := kw.x hk
    clear hR hk hg hP hb5
    refine zn (hK13 _ _ ?_)
    refine zq fun K15 hK15 => ?_
    refine rg mixed y14 zz14 ?_
    refine .ac ?_
    refine .dn fun a16 g W16 y16 zz16 hk hg hV hR hP => ?_
    obtain ⟨-, -⟩ := hV
    replace e2 := ft hR e2
    replace e4 := ft hR e4
    replace e5 := ft hR e5
    replace D_cn13_11 := D_cn13_11.ext hk
    replace D_ci13_11 := D_ci13_11.ext hk
    replace own_b2_2 := own_b2_2.ext hk
    replace own_b1_2 := own_b1_2.ext hk
    replace own_bo13_11 := own_bo13_11.ext hk
    replace own_bm13_11 := own_bm13_11.ext hk
    replace own_b5_14 := own_b5_14.ext hk
    replace kw := kw.x hk
    clear hR hk hg hP
    refine zn (hK15 _ _ ?_)
    refine zq fun K17 hK17 => ?_
    refine wp_reg (fun k => k ∉ [bo13_11, bm13_11]) (Ψ := fun W => Own W bo13_11 [(.int .u8 (x.k)), (.int .i64 (x.n)), (.string (x.t)), (.slice cn13_11a (x.ns.length) cn13_11c), (.slice ci13_11a (x.xs.length) ci13_11c), (.map (some bm13_11)), (.int .i64 (0))] 74 ∧ OwnM W bm13_11 ([])) mixed y16 zz16 (stE_and stE_own stE_ownM) ⟨own_bo13_11, own_bm13_11⟩ ?_
    refine .mb rfl e4 ?_
    refine .callL4 (φ1 := Is (.pointer (some ⟨bo13_11, 0, none⟩))) (φ2 := Is (.string sLength)) (φ3 := Is (.int .i64 (0))) (φ4 := Is (.int .i64 (1099511627776))) (φ := Is (.int .i64 (if tkB x 0 sLength (numE 0 1099511627776) then numV 0 1099511627776 (getV x sLength) else 0))) (Ψ' := fun W => Own W bo13_11 [(.int .u8 (x.k)), (.int .i64 (x.n)), (.string (x.t)), (.slice cn13_11a (x.ns.length) cn13_11c), (.slice ci13_11a (x.xs.length) ci13_11c), (.map (some bm13_11)), (.int .i64 (tkE x 0 sLength (numE 0 1099511627776)))] 74 ∧ OwnM W bm13_11 (tkA x ([]) 0 sLength (numE 0 1099511627776))) ent36 (hlc rfl) Has.cst Has.cst Has.cst (st_is _) (stE_and stE_own stE_ownM) (fun g u1 u2 u3 u4 W hk hg h1 h2 h3 h4 hP => by have h1 : u1 = _ := h1; subst u1; have h2 : u2 = _ := h2; subst u2; have h3 : u3 = _ := h3; subst u3; have h4 : u4 = _ := h4; subst u4; exact (Num_ok (x) ([]) (0) (AB.nil.mono (by omega)) hx tb13_11 sLength 0 1099511627776 W _ _ _ _ _ (fun b o h => h.2.1) (sf_notin (by simp)) ne_bo13_11_bm13_11 (sf_keepL D_cn13_11 hk (by simp)) (sf_keepL D_ci13_11 hk (by simp)) hP.1 hP.2)) ?_
    refine .i (fo 0 (hbs rfl e5) Tryz.underlying46 rfl sz2 rfl) ?_
    refine .dn fun a18 g W18 y18 zz18 hk hg hV hR hP => ?_
    obtain ⟨e16, e15, -, -⟩ := hV
    replace e2 := ft hR e2
    replace e4 := ft hR e4
    replace e5 := ft hR e5
    replace e15 := e15.q
    have e16 : sl a18 16 = (.pointer (some ⟨b5_14, 0, none⟩)) := e16
    replace D_cn13_11 := sf_keepL D_cn13_11 hk (by simp)
    replace D_ci13_11 := sf_keepL D_ci13_11 hk (by simp)
    replace own_b2_2 := own_keepL own_b2_2 hk (by simp [ne_b2_2_bo13_11, ne_b2_2_bm13_11])
    replace own_b1_2 := own_keepL own_b1_2 hk (by simp [ne_b1_2_bo13_11, ne_b1_2_bm13_11])
    replace own_b5_14 := own_keepL own_b5_14 hk (by simp [ne_bo13_11_b5_14.symm, ne_bm13_11_b5_14.symm])
    obtain ⟨own_bo13_11, own_bm13_11⟩ := hP
    replace own_bo13_11 : Own W18 bo13_11 [(.int .u8 (x.k)), (.int .i64 (x.n)), (.string (x.t)), (.slice cn13_11a (x.ns.length) cn13_11c), (.slice ci13_11a (x.xs.length) ci13_11c), (.map (some bm13_11)), (.int .i64 (tkE x 0 sLength (numE 0 1099511627776)))] 74 := own_bo13_11
    replace own_bm13_11 : OwnM W18 bm13_11 (tkA x ([]) 0 sLength (numE 0 1099511627776)) := own_bm13_11
    replace kw := keeps_L kw hk (in_cons (.inl lo_bo13_11) (in_cons (.inl lo_bm13_11) in_nil))
    clear hR hk hg
    refine tail_store e16 e15 sz2 rfl own_b5_14 (lbr rfl) (all_cons rfl all_nil) (fun W19 hs own_b5_14 => ?_)
    have own_b5_14 : Own W19 b5_14 [(.int .i64 (zlN x)), (.slice none 0 0), (.int .u8 (0)), (.int .i64 (0)), (.string (⟨#[]⟩)), (.slice none 0 0), (.slice none 0 0)] 46 := own_b5_14
    replace own_b2_2 := own_store own_b2_2 hs ne_b2_2_b5_14
    replace own_b1_2 := own_store own_b1_2 hs ne_b1_2_b5_14
    replace own_bo13_11 := own_store own_bo13_11 hs ne_bo13_11_b5_14
    replace own_bm13_11 := ownM_store own_bm13_11 hs ne_bm13_11_b5_14
    replace D_cn13_11 := sf_store D_cn13_11 hs (by simp)
    replace D_ci13_11 := sf_store D_ci13_11 hs (by simp)
    replace kw := keeps_store kw hs lo_b5_14
    clear hs
    refine zn (hK17 _ _ ?_)
    refine zq fun K20 hK20 => ?_
    refine wp_reg (fun k => k ∉ [bo13_11, bm13_11]) (Ψ := fun W => Own W bo13_11 [(.int .u8 (x.k)), (.int .i64 (x.n)), (.string (x.t)), (.slice cn13_11a (x.ns.length) cn13_11c), (.slice ci13_11a (x.xs.length) ci13_11c), (.map (some bm13_11)), (.int .i64 (tkE x 0 sLength (numE 0 1099511627776)))] 74 ∧ OwnM W bm13_11 (tkA x ([]) 0 sLength (numE 0 1099511627776))) mixed y18 zz18 (stE_and stE_own stE_ownM) ⟨own_bo13_11, own_bm13_11⟩ ?_
    refine .mb rfl e4 ?_
    refine .callL3 (φ1 := Is (.pointer (some ⟨bo13_11, 0, none⟩))) (φ2 := Is (.string sHashes)) (φ3 := Is (.int .i64 (4))) (φ := IsD (Fr W19) (V.d (f2O x))) (Ψ' := fun W => Own W bo13_11 [(.int .u8 (x.k)), (.int .i64 (x.n)), (.string (x.t)), (.slice cn13_11a (x.ns.length) cn13_11c), (.slice ci13_11a (x.xs.length) ci13_11c), (.map (some bm13_11)), (.int .i64 (tkE x (tkE x 0 sLength (numE 0 1099511627776)) sHashes (obE 4)))] 74 ∧ OwnM W bm13_11 (tkA x (tkA x ([]) 0 sLength (numE 0 1099511627776)) (tkE x 0 sLength (numE 0 1099511627776)) sHashes (obE 4))) ent37 (hlc rfl) Has.cst Has.cst (st_d (sub_frnl (in_cons own_bo13_11.lt (in_cons own_bm13_11.lt in_nil)))) (stE_and stE_own stE_ownM) (fun g u1 u2 u3 W hk hg h1 h2 h3 hP => by have h1 : u1 = _ := h1; subst u1; have h2 : u2 = _ := h2; subst u2; have h3 : u3 = _ := h3; subst u3; exact (Object_ok (x) (tkA x ([]) 0 sLength (numE 0 1099511627776)) (tkE x 0 sLength (numE 0 1099511627776)) (AB.nil.tk.mono (by omega)) hx tb13_11 sHashes 4 W _ _ _ _ _ (fun b o h => h.2.1) (sf_notin (by simp)) ne_bo13_11_bm13_11 (sf_keepL D_cn13_11 hk (by simp)) (sf_keepL D_ci13_11 hk (by simp)) hP.1 hP.2).mono (fun _ _ ⟨v, h1, h2, h3, h4⟩ => ⟨v, h1, h2, fresh_d hk hg h3, h4⟩)) ?_
    refine .op (φ := IsT (IsD (Fr W19) (hssD (hsOV (f2O x)))) (Is (.int .i64 (hsOE (f2O x))))) (st_t (st_d (sub_frnl (in_cons own_bo13_11.lt (in_cons own_bm13_11.lt in_nil)))) (st_is _)) (sp_call1 (φ1 := IsD (Fr W19) (V.d (f2O x))) ent9 (hlc rfl) (fun g u1 W hk hgk h1 => (HashesOf_ok (f2O x) (Nat.le_trans (f2O_wt x) hx) W _ _ h1).mono (fun _ _ ⟨v, h1, h2, r1, h3, h4⟩ => ⟨v, h1, h2, r1, _, h3, fresh_d hk hgk h4, rfl⟩))) ?_
    refine .op (φ := IsT (IsD (Fr W19) (hssD (hsOV (f2O x)))) (Is (.int .i64 (hsOE (f2O x))))) (st_t (st_d (sub_frnl (in_cons own_bo13_11.lt (in_cons own_bm13_11.lt in_nil)))) (st_is _)) (sp_move (hlc rfl)) ?_
    refine .op (φ := IsD (Fr W19) (hssD (hsOV (f2O x)))) (st_d (sub_frnl (in_cons own_bo13_11.lt (in_cons own_bm13_11.lt in_nil)))) (sp_ext2 (hlc rfl) rfl) ?_
    refine .i (v := (.int .i64 (hsOE (f2O x)))) (sp_ext2' (hlc rfl) rfl) ?_
    refine .i (fo 1 (hbs rfl e5) Tryz.underlying46 rfl sz22 rfl) ?_
    refine .dn fun a21 g W21 y21 zz21 hk hg hV hR hP => ?_
    obtain ⟨e23, e22, e21, -, -, -, -, -⟩ := hV
    replace e2 := ft hR e2
    replace e4 := ft hR e4
    replace e5 := ft hR e5
    obtain ⟨v21_21, ev⟩ : ∃ v, sl a21 21 = v := ⟨_, rfl⟩
    rw [ev] at e21
    have D_v21_21 : Rd W21 (SF w [b5_14, bo13_11, bm13_11, b2_2, b1_2]) (hssD (hsOV (f2O x))) v21_21 := fr_end (M := [b5_14, bo13_11, bm13_11, b2_2, b1_2]) e21 kw [] in_nil (in_cons own_b5_14.lt (in_cons own_bo13_11.lt (in_cons own_bm13_11.lt (in_cons own_b2_2.lt (in_cons own_b1_2.lt in_nil)))))
    replace e21 := ev; clear ev
    obtain ⟨v21_21a, v21_21c, ev, D2⟩ := rdHss_out D_v21_21
    subst ev; replace D_v21_21 := D2; clear D2
    replace e22 := e22.q
    have e23 : sl a21 23 = (.pointer (some ⟨b5_14, 1, none⟩)) := e23
    replace D_cn13_11 := sf_keepL D_cn13_11 hk (by simp)
    replace D_ci13_11 := sf_keepL D_ci13_11 hk (by simp)
    replace own_b2_2 := own_keepL own_b2_2 hk (by simp [ne_b2_2_bo13_11, ne_b2_2_bm13_11])
    replace own_b1_2 := own_keepL own_b1_2 hk (by simp [ne_b1_2_bo13_11, ne_b1_2_bm13_11])
    replace own_b5_14 := own_keepL own_b5_14 hk (by simp [ne_bo13_11_b5_14.symm, ne_bm13_11_b5_14.symm])
    obtain ⟨own_bo13_11, own_bm13_11⟩ := hP
    replace own_bo13_11 : Own W21 bo13_11 [(.int .u8 (x.k)), (.int .i64 (x.n)), (.string (x.t)), (.slice cn13_11a (x.ns.length) cn13_11c), (.slice ci13_11a (x.xs.length) ci13_11c), (.map (some bm13_11)), (.int .i64 (tkE x (tkE x 0 sLength (numE 0 1099511627776)) sHashes (obE 4)))] 74 := own_bo13_11
    replace own_bm13_11 : OwnM W21 bm13_11 (tkA x (tkA x ([]) 0 sLength (numE 0 1099511627776)) (tkE x 0 sLength (numE 0 1099511627776)) sHashes (obE 4)) := own_bm13_11
    replace kw := keeps_L kw hk (in_cons (.inl lo_bo13_11) (in_cons (.inl lo_bm13_11) in_nil))
    clear hR hk hg
    refine tail_store e23 e21 sz22 rfl own_b5_14 (lbr rfl) (all_cons rfl all_nil) (fun W22 hs own_b5_14 => ?_)
    have own_b5_14 : Own W22 b5_14 [(.int .i64 (zlN x)), (.slice v21_21a ((hsOV (f2O x)).length) v21_21c), (.int .u8 (0)), (.int .i64 (0)), (.string (⟨#[]⟩)), (.slice none 0 0), (.slice none 0 0)] 46 := own_b5_14
    replace own_b2_2 := own_store own_b2_2 hs ne_b2_2_b5_14
    replace own_b1_2 := own_store own_b1_2 hs ne_b1_2_b5_14
    replace own_bo13_11 := own_store own_bo13_11 hs ne_bo13_11_b5_14
    replace own_bm13_11 := ownM_store own_bm13_11 hs ne_bm13_11_b5_14
    replace D_cn13_11 := sf_store D_cn13_11 hs (by simp)
    replace D_ci13_11 := sf_store D_ci13_11 hs (by simp)
    replace D_v21_21 := sf_store D_v21_21 hs (by simp)
    replace kw := keeps_store kw hs lo_b5_14
    clear hs
    refine tail_assign (v := (.int .i64 (hsOE (f2O x)))) e22 (by rw [y21]; exact Nat.le_of_ble_eq_true rfl) (fun a23 y23 zz23 e6 hr => ?_)
    replace y23 := y23.trans y21; replace zz23 := zz23.trans zz21
    replace e2 := (hr 2 (by decide)).trans e2
    replace e4 := (hr 4 (by decide)).trans e4
    replace e5 := (hr 5 (by decide)).trans e5
    replace e21 := (hr 21 (by decide)).trans e21
    replace e22 := (hr 22 (by decide)).trans e22
    replace e23 := (hr 23 (by decide)).trans e23
    clear hr
    refine zn (hK20 _ _ ?_)
    refine zq fun K24 hK24 => ?_
    refine wp_reg (fun k => k ∉ [bo13_11]) (Ψ := fun W => Own W bo13_11 [(.int .u8 (x.k)), (.int .i64 (x.n)), (.string (x.t)), (.slice cn13_11a (x.ns.length) cn13_11c), (.slice ci13_11a (x.xs.length) ci13_11c), (.map (some bm13_11)), (.int .i64 (tkE x (tkE x 0 sLength (numE 0 1099511627776)) sHashes (obE 4)))] 74) mixed y23 zz23 stE_own own_bo13_11 ?_
    refine .mb rfl e4 ?_
    refine .mb rfl e6 ?_
    refine .callL2 (φ1 := Is (.pointer (some ⟨bo13_11, 0, none⟩))) (φ2 := Is (.int .i64 (hsOE (f2O x)))) (φ := Is (.tuple #[])) (Ψ' := fun W => Own W bo13_11 [(.int .u8 (x.k)), (.int .i64 (x.n)), (.string (x.t)), (.slice cn13_11a (x.ns.length) cn13_11c), (.slice ci13_11a (x.xs.length) ci13_11c), (.map (some bm13_11)), (.int .i64 (failK x.k (tkE x (tkE x 0 sLength (numE 0 1099511627776)) sHashes (obE 4)) (hsOE (f2O x))))] 74) ent38 (hlc rfl) (hlc rfl) (st_is _) stE_own (fun g u1 u2 W hk hg h1 h2 hP => by have h1 : u1 = _ := h1; subst u1; have h2 : u2 = _ := h2; subst u2; exact (Fail_ok _ _ _ _ _ _ _ (hsOE (f2O x)) W _ hP)) ?_
    refine .dn fun a25 g W25 y25 zz25 hk hg hV hR hP => ?_
    obtain ⟨-, -, -, -⟩ := hV
    replace e2 := ft hR e2
    replace e4 := ft hR e4
    replace e5 := ft hR e5
    replace D_cn13_11 := sf_keepL D_cn13_11 hk (by simp)
    replace D_ci13_11 := sf_keepL D_ci13_11 hk (by simp)
    replace D_v21_21 := sf_keepL D_v21_21 hk (by simp)
    replace own_b2_2 := own_keepL own_b2_2 hk (by simp [ne_b2_2_bo13_11])
    replace own_b1_2 := own_keepL own_b1_2 hk (by simp [ne_b1_2_bo13_11])
    replace own_bm13_11 := ownM_keepL own_bm13_11 hk (by simp [ne_bo13_11_bm13_11.symm])
    replace own_b5_14 := own_keepL own_b5_14 hk (by simp [ne_bo13_11_b5_14.symm])
    have own_bo13_11 := hP
    replace own_bo13_11 : Own W25 bo13_11 [(.int .u8 (x.k)), (.int .i64 (x.n)), (.string (x.t)), (.slice cn13_11a (x.ns.length) cn13_11c), (.slice ci13_11a (x.xs.length) ci13_11c), (.map (some bm13_11)), (.int .i64 (failK x.k (tkE x (tkE x 0 sLength (numE 0 1099511627776)) sHashes (obE 4)) (hsOE (f2O x))))] 74 := own_bo13_11
    replace kw := keeps_L kw hk (in_cons (.inl lo_bo13_11) in_nil)
    clear hR hk hg hP
    refine zn (hK24 _ _ ?_)
    refine zq fun K26 hK26 => ?_
    refine zq fun K27 hK27 => ?_
    refine rg mixed y25 zz25 ?_
    refine .mb rfl e4 ?_
    refine .i (v := (.bool (decide (errK x.k (failK x.k (tkE x (tkE x 0 sLength (numE 0 1099511627776)) sHashes (obE 4)) (hsOE (f2O x))) = 0) && getB x sCustom))) (sp_call2 (φ1 := Is (.pointer (some ⟨bo13_11, 0, none⟩))) (φ2 := Is (.string sCustom)) ent39 (hlc rfl) Has.cst (fun g u1 u2 W hk hgk h1 h2 => by have h1 : u1 = _ := h1; subst u1; have h2 : u2 = _ := h2; subst u2; exact HasO_ok (x) (failK x.k (tkE x (tkE x 0 sLength (numE 0 1099511627776)) sHashes (obE 4)) (hsOE (f2O x))) hx tb13_11 sCustom W _ _ _ _ _ (fun b o h => h.2.1) (D_cn13_11.ext hk) (D_ci13_11.ext hk) (own_bo13_11.ext hk))) ?_
    refine .dn fun a28 g W28 y28 zz28 hk hg hV hR hP => ?_
    obtain ⟨e28, -, -⟩ := hV
    replace e2 := ft hR e2
    replace e4 := ft hR e4
    replace e5 := ft hR e5
    replace D_cn13_11 := D_cn13_11.ext hk
    replace D_ci13_11 := D_ci13_11.ext hk
    replace D_v21_21 := D_v21_21.ext hk
    replace e28 := e28.q
    replace own_b2_2 := own_b2_2.ext hk
    replace own_b1_2 := own_b1_2.ext hk
    replace own_bo13_11 := own_bo13_11.ext hk
    replace own_bm13_11 := own_bm13_11.ext hk
    replace own_b5_14 := own_b5_14.ext hk
    replace kw := kw.x hk
    clear hR hk hg hP
    refine zn (hK27 _ _ ?_)
    refine zc e28 (fun hc => ?_) (fun hc => ?_)
    ·
     have hb : f4B x = true := hc
     refine wp_reg (fun k => k ∉ [bo13_11, bm13_11]) (Ψ := fun W => Own W bo13_11 [(.int .u8 (x.k)), (.int .i64 (x.n)), (.string (x.t)), (.slice cn13_11a (x.ns.length) cn13_11c), (.slice ci13_11a (x.xs.length) ci13_11c), (.map (some bm13_11)), (.int .i64 (failK x.k (tkE x (tkE x 0 sLength (numE 0 1099511627776)) sHashes (obE 4)) (hsOE (f2O x))))] 74 ∧ OwnM W bm13_11 (tkA x (tkA x ([]) 0 sLength (numE 0 1099511627776)) (tkE x 0 sLength (numE 0 1099511627776)) sHashes (obE 4))) mixed y28 zz28 (stE_and stE_own stE_ownM) ⟨own_bo13_11, own_bm13_11⟩ ?_
     refine .mb rfl e4 ?_
     refine .callL2 (φ1 := Is (.pointer (some ⟨bo13_11, 0, none⟩))) (φ2 := Is (.string sCustom)) (φ := IsD (Fr W28) (V.d (if tkB x (failK x.k (tkE x (tkE x 0 sLength (numE 0 1099511627776)) sHashes (obE 4)) (hsOE (f2O x))) sCustom anyE then getV x sCustom else ⟨0, 0, ⟨#[]⟩, [], []⟩))) (Ψ' := fun W => Own W bo13_11 [(.int .u8 (x.k)), (.int .i64 (x.n)), (.string (x.t)), (.slice cn13_11a (x.ns.length) cn13_11c), (.slice ci13_11a (x.xs.length) ci13_11c), (.map (some bm13_11)), (.int .i64 (tkE x (failK x.k (tkE x (tkE x 0 sLength (numE 0 1099511627776)) sHashes (obE 4)) (hsOE (f2O x))) sCustom anyE))] 74 ∧ OwnM W bm13_11 (tkA x (tkA x (tkA x ([]) 0 sLength (numE 0 1099511627776)) (tkE x 0 sLength (numE 0 1099511627776)) sHashes (obE 4)) (failK x.k (tkE x (tkE x 0 sLength (numE 0 1099511627776)) sHashes (obE 4)) (hsOE (f2O x))) sCustom anyE)) ent40 (hlc rfl) Has.cst (st_d (sub_frnl (in_cons own_bo13_11.lt (in_cons own_bm13_11.lt in_nil)))) (stE_and stE_own stE_ownM) (fun g u1 u2 W hk hg h1 h2 hP => by have h1 : u1 = _ := h1; subst u1; have h2 : u2 = _ := h2; subst u2; exact (Any_ok (x) (tkA x (tkA x ([]) 0 sLength (numE 0 1099511627776)) (tkE x 0 sLength (numE 0 1099511627776)) sHashes (obE 4)) (failK x.k (tkE x (tkE x 0 sLength (numE 0 1099511627776)) sHashes (obE 4)) (hsOE (f2O x))) (AB.nil.tk.tk.mono (by omega)) hx tb13_11 sCustom W _ _ _ _ _ (fun b o h => h.2.1) (sf_notin (by simp)) ne_bo13_11_bm13_11 (sf_keepL D_cn13_11 hk (by simp)) (sf_keepL D_ci13_11 hk (by simp)) hP.1 hP.2).mono (fun _ _ ⟨v, h1, h2, h3, h4⟩ => ⟨v, h1, h2, fresh_d hk hg h3, h4⟩)) ?_
     refine .i (fo 2 (hbs rfl e5) Tryz.underlying46 rfl sz26 rfl) ?_
     refine .dn fun a29 g W29 y29 zz29 hk hg hV hR hP => ?_
     obtain ⟨e31, e30, -, -⟩ := hV
     replace e2 := ft hR e2
     replace e4 := ft hR e4
     replace e5 := ft hR e5
     obtain ⟨v30_29, ev⟩ : ∃ v, sl a29 30 = v := ⟨_, rfl⟩
     rw [ev] at e30
     have D_v30_29 : Rd W29 (SF w [b5_14, bo13_11, bm13_11, b2_2, b1_2]) (V.d (zcV x)) v30_29 := fr_end (M := [b5_14, bo13_11, bm13_11, b2_2, b1_2]) e30 kw [] in_nil (in_cons own_b5_14.lt (in_cons own_bo13_11.lt (in_cons own_bm13_11.lt (in_cons own_b2_2.lt (in_cons own_b1_2.lt in_nil)))))
     replace e30 := ev; clear ev
     obtain ⟨cn30_29a, cn30_29c, ci30_29a, ci30_29c, ev, ht_v30_29, D_cn30_29, D_ci30_29⟩ := rdV_out D_v30_29
     subst ev; clear D_v30_29
     have e31 : sl a29 31 = (.pointer (some ⟨b5_14, 2, none⟩)) := e31
     replace D_cn13_11 := sf_keepL D_cn13_11 hk (by simp)
     replace D_ci13_11 := sf_keepL D_ci13_11 hk (by simp)
     replace D_v21_21 := sf_keepL D_v21_21 hk (by simp)
     replace own_b2_2 := own_keepL own_b2_2 hk (by simp [ne_b2_2_bo13_11, ne_b2_2_bm13_11])
     replace own_b1_2 := own_keepL own_b1_2 hk (by simp [ne_b1_2_bo13_11, ne_b1_2_bm13_11])
     replace own_b5_14 := own_keepL own_b5_14 hk (by simp [ne_bo13_11_b5_14.symm, ne_bm13_11_b5_14.symm])
     obtain ⟨own_bo13_11, own_bm13_11⟩ := hP
     replace own_bo13_11 : Own W29 bo13_11 [(.int .u8 (x.k)), (.int .i64 (x.n)), (.string (x.t)), (.slice cn13_11a (x.ns.length) cn13_11c), (.slice ci13_11a (x.xs.length) ci13_11c), (.map (some bm13_11)), (.int .i64 (tkE x (failK x.k (tkE x (tkE x 0 sLength (numE 0 1099511627776)) sHashes (obE 4)) (hsOE (f2O x))) sCustom anyE))] 74 := own_bo13_11
     replace own_bm13_11 : OwnM W29 bm13_11 (tkA x (tkA x (tkA x ([]) 0 sLength (numE 0 1099511627776)) (tkE x 0 sLength (numE 0 1099511627776)) sHashes (obE 4)) (failK x.k (tkE x (tkE x 0 sLength (numE 0 1099511627776)) sHashes (obE 4)) (hsOE (f2O x))) sCustom anyE) := own_bm13_11
     replace kw := keeps_L kw hk (in_cons (.inl lo_bo13_11) (in_cons (.inl lo_bm13_11) in_nil))
     clear hR hk hg
     refine tail_store e31 e30 sz26 rfl own_b5_14 (lbr rfl) (all_cons rfl (all_cons rfl (all_cons rfl (all_cons rfl (all_cons rfl all_nil))))) (fun W30 hs own_b5_14 => ?_)
     have own_b5_14 : Own W30 b5_14 [(.int .i64 (zlN x)), (.slice v21_21a ((hsOV (f2O x)).length) v21_21c), (.int .u8 ((zcV x).k)), (.int .i64 ((zcV x).n)), (.string ((zcV x).t)), (.slice cn30_29a (((zcV x).ns).length) cn30_29c), (.slice ci30_29a (((zcV x).xs).length) ci30_29c)] 46 := own_b5_14
     replace own_b2_2 := own_store own_b2_2 hs ne_b2_2_b5_14
     replace own_b1_2 := own_store own_b1_2 hs ne_b1_2_b5_14
     replace own_bo13_11 := own_store own_bo13_11 hs ne_bo13_11_b5_14
     replace own_bm13_11 := ownM_store own_bm13_11 hs ne_bm13_11_b5_14
     replace D_cn13_11 := sf_store D_cn13_11 hs (by simp)
     replace D_ci13_11 := sf_store D_ci13_11 hs (by simp)
     replace D_v21_21 := sf_store D_v21_21 hs (by simp)
     replace D_cn30_29 := sf_store D_cn30_29 hs (by simp)
     replace D_ci30_29 := sf_store D_ci30_29 hs (by simp)
     replace kw := keeps_store kw hs lo_b5_14
     clear hs
     refine zn (hK26 _ _ ?_)
     refine zq fun K31 hK31 => ?_
     refine zq fun K32 hK32 => ?_
     refine rg mixed y29 zz29 ?_
     refine .mb rfl e4 ?_
     refine .i (v := (.int .i64 (doneE x (tkA x (tkA x (tkA x ([]) 0 sLength (numE 0 1099511627776)) (tkE x 0 sLength (numE 0 1099511627776)) sHashes (obE 4)) (failK x.k (tkE x (tkE x 0 sLength (numE 0 1099511627776)) sHashes (obE 4)) (hsOE (f2O x))) sCustom anyE) (tkE x (failK x.k (tkE x (tkE x 0 sLength (numE 0 1099511627776)) sHashes (obE 4)) (hsOE (f2O x))) sCustom anyE)))) (sp_call1 (φ1 := Is (.pointer (some ⟨bo13_11, 0, none⟩))) ent41 (hlc rfl) (fun g u1 W hk hgk h1 => by have h1 : u1 = _ := h1; subst u1; exact Done_ok (x) (tkA x (tkA x (tkA x ([]) 0 sLength (numE 0 1099511627776)) (tkE x 0 sLength (numE 0 1099511627776)) sHashes (obE 4)) (failK x.k (tkE x (tkE x 0 sLength (numE 0 1099511627776)) sHashes (obE 4)) (hsOE (f2O x))) sCustom anyE) (tkE x (failK x.k (tkE x (tkE x 0 sLength (numE 0 1099511627776)) sHashes (obE 4)) (hsOE (f2O x))) sCustom anyE) W _ _ _ _ _ (D_cn13_11.ext hk) (own_bo13_11.ext hk) (own_bm13_11.ext hk))) ?_
     refine .al rfl ?_
     refine .dn fun a33 g W33 y33 zz33 hk hg hV hR hP => ?_
     obtain ⟨e7, -, -, -⟩ := hV
     replace e2 := ft hR e2
     replace e5 := ft hR e5
     replace D_cn13_11 := D_cn13_11.ext hk
     replace D_ci13_11 := D_ci13_11.ext hk
     replace D_v21_21 := D_v21_21.ext hk
     replace D_cn30_29 := D_cn30_29.ext hk
     replace D_ci30_29 := D_ci30_29.ext hk
     replace e7 := e7.q
     replace own_b2_2 := own_b2_2.ext hk
     replace own_b1_2 := own_b1_2.ext hk
     replace own_bo13_11 := own_bo13_11.ext hk
     replace own_bm13_11 := own_bm13_11.ext hk
     replace own_b5_14 := own_b5_14.ext hk
     replace kw := kw.x hk
     clear hR hk hg hP
     refine zn (hK32 _ _ ?_)
     refine zq fun K34 hK34 => ?_
     refine rg mixed y33 zz33 ?_
     refine .mb rfl e7 ?_
     refine .i (sp_neq (hlc rfl) Has.cst) ?_
     refine .dn fun a35 g W35 y35 zz35 hk hg hV hR hP => ?_
     obtain ⟨e35, -, -⟩ := hV
     replace e2 := ft hR e2
     replace e5 := ft hR e5
     replace e7 := ft hR e7
     replace D_v21_21 := D_v21_21.ext hk
     replace D_cn30_29 := D_cn30_29.ext hk
     replace D_ci30_29 := D_ci30_29.ext hk
     replace e35 := e35.q
     replace own_b2_2 := own_b2_2.ext hk
     replace own_b1_2 := own_b1_2.ext hk
     replace own_bo13_11 := own_bo13_11.ext hk
     replace own_bm13_11 := own_bm13_11.ext hk
     replace own_b5_14 := own_b5_14.ext hk
     replace kw := kw.x hk
     clear hR hk hg hP
     refine zn (hK34 _ _ ?_)
     refine zc e35 (fun hc => ?_) (fun hc => ?_)
     ·
      have hd := bne_iff_ne.1 hc
      have hdE : ofRE x = doneE x (tkA x (f2A x) (f3E x) sCustom anyE) (tkE x (f3E x) sCustom anyE) := by rw [ofRE, if_neg hm, if_neg (by simp [hof]), f4A, f4E, if_pos hb, if_pos hb]
      have hoe := hdE
      have hov : ofRV x = ⟨0, [], ⟨0, 0, ⟨#[]⟩, [], []⟩⟩ := by rw [ofRV, if_neg (by rw [hoe]; exact hd)]
      refine zq fun K36 hK36 => ?_
      refine rg mixed y35 zz35 ?_
      refine .i (v := (.agg #[(.int .i64 (0)), (.slice none 0 0), (.int .u8 (0)), (.int .i64 (0)), (.string (⟨#[]⟩)), (.slice none 0 0), (.slice none 0 0)])) (sp_build (vs := []) Tryz.underlying46 z46 (pl46 Tryz.underlying46) trivial rfl) ?_
      refine .mb rfl e7 ?_
      refine .dn fun a37 g W37 y37 zz37 hk hg hV hR hP => ?_
      obtain ⟨e37, e36, -⟩ := hV
      replace e2 := ft hR e2
      replace D_v21_21 := D_v21_21.ext hk
      replace D_cn30_29 := D_cn30_29.ext hk
      replace D_ci30_29 := D_ci30_29.ext hk
      replace e36 := e36.q
      replace e37 := e37.q
      replace own_b2_2 := own_b2_2.ext hk
      replace own_b1_2 := own_b1_2.ext hk
      replace own_bo13_11 := own_bo13_11.ext hk
      replace own_bm13_11 := own_bm13_11.ext hk
      replace own_b5_14 := own_b5_14.ext hk
      replace kw := kw.x hk
      clear hR hk hg hP
      refine tail_store e2 e36 sz46 rfl own_b2_2 (lbr rfl) (all_cons rfl (all_cons rfl (all_cons rfl (all_cons rfl (all_cons rfl (all_cons rfl (all_cons rfl all_nil))))))) (fun W38 hs own_b2_2 => ?_)
      have own_b2_2 : Own W38 b2_2 [(.int .i64 (0)), (.slice none 0 0), (.int .u8 (0)), (.int .i64 (0)), (.string (⟨#[]⟩)), (.slice none 0 0), (.slice none 0 0)] 46 := own_b2_2
      replace own_b1_2 := own_store own_b1_2 hs ne_b2_2_b1_2.symm
      replace own_bo13_11 := own_store own_bo13_11 hs ne_b2_2_bo13_11.symm
      replace own_bm13_11 := ownM_store own_bm13_11 hs ne_b2_2_bm13_11.symm
      replace own_b5_14 := own_store own_b5_14 hs ne_b2_2_b5_14.symm
      replace D_v21_21 := sf_store D_v21_21 hs (by simp)
      replace D_cn30_29 := sf_store D_cn30_29 hs (by simp)
      replace D_ci30_29 := sf_store D_ci30_29 hs (by simp)
      replace kw := keeps_store kw hs lo_b2_2
      clear hs
      refine tail_assign (v := (.int .i64 (doneE x (tkA x (tkA x (tkA x ([]) 0 sLength (numE 0 1099511627776)) (tkE x 0 sLength (numE 0 1099511627776)) sHashes (obE 4)) (failK x.k (tkE x (tkE x 0 sLength (numE 0 1099511627776)) sHashes (obE 4)) (hsOE (f2O x))) sCustom anyE) (tkE x (failK x.k (tkE x (tkE x 0 sLength (numE 0 1099511627776)) sHashes (obE 4)) (hsOE (f2O x))) sCustom anyE)))) e37 (by rw [y37]; exact Nat.le_of_ble_eq_true rfl) (fun a39 y39 zz39 e3 hr => ?_)
      replace y39 := y39.trans y37; replace zz39 := zz39.trans zz37
      replace e2 := (hr 2 (by decide)).trans e2
      replace e36 := (hr 36 (by decide)).trans e36
      replace e37 := (hr 37 (by decide)).trans e37
      clear hr
      refine zn (hK36 _ _ ?_)
      refine wp_ret ?_
      refine retCT (v := (.agg #[(.int .i64 (0)), (.slice none 0 0), (.int .u8 (0)), (.int .i64 (0)), (.string (⟨#[]⟩)), (.slice none 0 0), (.slice none 0 0)])) rfl zz39 e2 own_b2_2 agg46 sz46 rfl (fun h => by cases h) rfl e3 ⟨_, rfl, kw, ?_⟩
      refine ⟨_, congrArg (fun q => Value.tuple #[_, Value.int .i64 q]) hoe.symm, ?_⟩
      rw [hov]
      exact sf_fr (rdRc_mk (rd_nil _) (rdV_mk (lbr rfl) (rd_nil _) (rd_nil _) : Rd W38 (SF w [b5_14, bo13_11, bm13_11, b2_2, b1_2]) (V.d (V.mk (0) (0) (⟨#[]⟩) ([]) ([]))) _) : Rd W38 (SF w [b5_14, bo13_11, bm13_11, b2_2, b1_2]) (Rc.d (Rc.mk (0) ([]) (V.mk (0) (0) (⟨#[]⟩) ([]) ([])))) _)
     have hd := bne_eq_false_iff_eq.1 hc
     have hdE : ofRE x = doneE x (tkA x (f2A x) (f3E x) sCustom anyE) (tkE x (f3E x) sCustom anyE) := by rw [ofRE, if_neg hm, if_neg (by simp [hof]), f4A, f4E, if_pos hb, if_pos hb]
     have hoe : ofRE x = 0 := hdE.trans hd
     have hov : ofRV x = ⟨f1N x, hsOV (f2O x), if tkB x (f3E x) sCustom anyE then getV x sCustom else ⟨0, 0, ⟨#[]⟩, [], []⟩⟩ := by rw [ofRV, if_pos hoe, f4V, if_pos hb]
     refine wp_skip (hK31 _ _ ?_)
     refine zq fun K40 hK40 => ?_
     refine rg mixed y35 zz35 ?_
     refine .i (v := (.agg #[(.int .i64 (zlN x)), (.slice v21_21a ((hsOV (f2O x)).length) v21_21c), (.int .u8 ((zcV x).k)), (.int .i64 ((zcV x).n)), (.string ((zcV x).t)), (.slice cn30_29a (((zcV x).ns).length) cn30_29c), (.slice ci30_29a (((zcV x).xs).length) ci30_29c)])) (loA (hbs rfl e5) own_b5_14 trivial agg46 sz46 rfl rfl) ?_
     refine .dn fun a41 g W41 y41 zz41 hk hg hV hR hP => ?_
     obtain ⟨e38, -⟩ := hV
     replace e2 := ft hR e2
     replace D_v21_21 := D_v21_21.ext hk
     replace D_cn30_29 := D_cn30_29.ext hk
     replace D_ci30_29 := D_ci30_29.ext hk
     replace e38 := e38.q
     replace own_b2_2 := own_b2_2.ext hk
     replace own_b1_2 := own_b1_2.ext hk
     replace own_bo13_11 := own_bo13_11.ext hk
     replace own_bm13_11 := own_bm13_11.ext hk
     replace own_b5_14 := own_b5_14.ext hk
     replace kw := kw.x hk
     clear hR hk hg hP
     refine tail_store e2 e38 sz46 rfl own_b2_2 (lbr rfl) (all_cons rfl (all_cons rfl (all_cons rfl (all_cons rfl (all_cons rfl (all_cons rfl (all_cons rfl all_nil))))))) (fun W42 hs own_b2_2 => ?_)
     have own_b2_2 : Own W42 b2_2 [(.int .i64 (zlN x)), (.slice v21_21a ((hsOV (f2O x)).length) v21_21c), (.int .u8 ((zcV x).k)), (.int .i64 ((zcV x).n)), (.string ((zcV x).t)), (.slice cn30_29a (((zcV x).ns).length) cn30_29c), (.slice ci30_29a (((zcV x).xs).length) ci30_29c)] 46 := own_b2_2
     replace own_b1_2 := own_store own_b1_2 hs ne_b2_2_b1_2.symm
     replace own_bo13_11 := own_store own_bo13_11 hs ne_b2_2_bo13_11.symm
     replace own_bm13_11 := ownM_store own_bm13_11 hs ne_b2_2_bm13_11.symm
     replace own_b5_14 := own_store own_b5_14 hs ne_b2_2_b5_14.symm
     replace D_v21_21 := sf_store D_v21_21 hs (by simp)
     replace D_cn30_29 := sf_store D_cn30_29 hs (by simp)
     replace D_ci30_29 := sf_store D_ci30_29 hs (by simp)
     replace kw := keeps_store kw hs lo_b2_2
     clear hs
     refine tail_assign (v := (.int .i64 (0))) rfl (by rw [y41]; exact Nat.le_of_ble_eq_true rfl) (fun a43 y43 zz43 e3 hr => ?_)
     replace y43 := y43.trans y41; replace zz43 := zz43.trans zz41
     replace e2 := (hr 2 (by decide)).trans e2
     replace e38 := (hr 38 (by decide)).trans e38
     clear hr
     refine zn (hK40 _ _ ?_)
     refine wp_ret ?_
     refine retCT (v := (.agg #[(.int .i64 (zlN x)), (.slice v21_21a ((hsOV (f2O x)).length) v21_21c), (.int .u8 ((zcV x).k)), (.int .i64 ((zcV x).n)), (.string ((zcV x).t)), (.slice cn30_29a (((zcV x).ns).length) cn30_29c), (.slice ci30_29a (((zcV x).xs).length) ci30_29c)])) rfl zz43 e2 own_b2_2 agg46 sz46 rfl (fun h => by cases h) rfl e3 ⟨_, rfl, kw, ?_⟩
     refine ⟨_, congrArg (fun q => Value.tuple #[_, Value.int .i64 q]) hoe.symm, ?_⟩
     rw [hov]
     exact sf_fr (rdRc_mk D_v21_21 (rdV_in (x := (zcV x)) ht_v30_29 D_cn30_29 D_ci30_29 : Rd W42 (SF w [b5_14, bo13_11, bm13_11, b2_2, b1_2]) (V.d (zcV x)) _) : Rd W42 (SF w [b5_14, bo13_11, bm13_11, b2_2, b1_2]) (Rc.d (Rc.mk (zlN x) (hsOV (f2O x)) (zcV x))) _)
    have hb : f4B x = false := hc
    refine wp_skip (hK26 _ _ ?_)
    refine zq fun K44 hK44 => ?_
    refine zq fun K45 hK45 => ?_
    refine rg mixed y28 zz28 ?_
    refine .mb rfl e4 ?_
    refine .i (v := (.int .i64 (doneE x (tkA x (tkA x ([]) 0 sLength (numE 0 1099511627776)) (tkE x 0 sLength (numE 0 1099511627776)) sHashes (obE 4)) (failK x.k (tkE x (tkE x 0 sLength (numE 0 1099511627776)) sHashes (obE 4)) (hsOE (f2O x)))))) (sp_call1 (φ1 := Is (.pointer (some ⟨bo13_11, 0, none⟩))) ent41 (hlc rfl) (fun g u1 W hk hgk h1 => by have h1 : u1 = _ := h1; subst u1; exact Done_ok (x) (tkA x (tkA x ([]) 0 sLength (numE 0 1099511627776)) (tkE x 0 sLength (numE 0 1099511627776)) sHashes (obE 4)) (failK x.k (tkE x (tkE x 0 sLength (numE 0 1099511627776)) sHashes (obE 4)) (hsOE (f2O x))) W _ _ _ _ _ (D_cn13_11.ext hk) (own_bo13_11.ext hk) (own_bm13_11.ext hk))) ?_
    refine .al rfl ?_
    refine .dn fun a46 g W46 y46 zz46 hk hg hV hR hP => ?_
    obtain ⟨e7, -, -, -⟩ := hV
    replace e2 := ft hR e2
    replace e5 := ft hR e5
    replace D_cn13_11 := D_cn13_11.ext hk
    replace D_ci13_11 := D_ci13_11.ext hk
    replace D_v21_21 := D_v21_21.ext hk
    replace e7 := e7.q
    replace own_b2_2 := own_b2_2.ext hk
    replace own_b1_2 := own_b1_2.ext hk
    replace own_bo13_11 := own_bo13_11.ext hk
    replace own_bm13_11 := own_bm13_11.ext hk
    replace own_b5_14 := own_b5_14.ext hk
    replace kw := kw.x hk
    clear hR hk hg hP
    refine zn (hK45 _ _ ?_)
    refine zq fun K47 hK47 => ?_
    refine rg mixed y46 zz46 ?_
    refine .mb rfl e7 ?_
    refine .i (sp_neq (hlc rfl) Has.cst) ?_
    refine .dn fun a48 g W48 y48 zz48 hk hg hV hR hP => ?_
    obtain ⟨e35, -, -⟩ := hV
    replace e2 := ft hR e2
    replace e5 := ft hR e5
    replace e7 := ft hR e7
    replace D_v21_21 := D_v21_21.ext hk
    replace e35 := e35.q
    replace own_b2_2 := own_b2_2.ext hk
    replace own_b1_2 := own_b1_2.ext hk
    replace own_bo13_11 := own_bo13_11.ext hk
    replace own_bm13_11 := own_bm13_11.ext hk
    replace own_b5_14 := own_b5_14.ext hk
    replace kw := kw.x hk
    clear hR hk hg hP
    refine zn (hK47 _ _ ?_)
    refine zc e35 (fun hc => ?_) (fun hc => ?_)
    ·
     have hd := bne_iff_ne.1 hc
     have hdE : ofRE x = doneE x (f2A x) (f3E x) := by rw [ofRE, if_neg hm, if_neg (by simp [hof]), f4A, f4E, if_neg (by simp [hb]), if_neg (by simp [hb])]
     have hoe := hdE
     have hov : ofRV x = ⟨0, [], ⟨0, 0, ⟨#[]⟩, [], []⟩⟩ := by rw [ofRV, if_neg (by rw [hoe]; exact hd)]
     refine zq fun K49 hK49 => ?_
     refine rg mixed y48 zz48 ?_
     refine .i (v := (.agg #[(.int .i64 (0)), (.slice none 0 0), (.int .u8 (0)), (.int .i64 (0)), (.string (⟨#[]⟩)), (.slice none 0 0), (.slice none 0 0)])) (sp_build (vs := []) Tryz.underlying46 z46 (pl46 Tryz.underlying46) trivial rfl) ?_
     refine .mb rfl e7 ?_
     refine .dn fun a50 g W50 y50 zz50 hk hg hV hR hP => ?_
     obtain ⟨e37, e36, -⟩ := hV
     replace e2 := ft hR e2
     replace D_v21_21 := D_v21_21.ext hk
     replace e36 := e36.q
     replace e37 := e37.q
     replace own_b2_2 := own_b2_2.ext hk
     replace own_b1_2 := own_b1_2.ext hk
     replace own_bo13_11 := own_bo13_11.ext hk
     replace own_bm13_11 := own_bm13_11.ext hk
     replace own_b5_14 := own_b5_14.ext hk
     replace kw := kw.x hk
     clear hR hk hg hP
     refine tail_store e2 e36 sz46 rfl own_b2_2 (lbr rfl) (all_cons rfl (all_cons rfl (all_cons rfl (all_cons rfl (all_cons rfl (all_cons rfl (all_cons rfl all_nil))))))) (fun W51 hs own_b2_2 => ?_)
     have own_b2_2 : Own W51 b2_2 [(.int .i64 (0)), (.slice none 0 0), (.int .u8 (0)), (.int .i64 (0)), (.string (⟨#[]⟩)), (.slice none 0 0), (.slice none 0 0)] 46 := own_b2_2
     replace own_b1_2 := own_store own_b1_2 hs ne_b2_2_b1_2.symm
     replace own_bo13_11 := own_store own_bo13_11 hs ne_b2_2_bo13_11.symm
     replace own_bm13_11 := ownM_store own_bm13_11 hs ne_b2_2_bm13_11.symm
     replace own_b5_14 := own_store own_b5_14 hs ne_b2_2_b5_14.symm
     replace D_v21_21 := sf_store D_v21_21 hs (by simp)
     replace kw := keeps_store kw hs lo_b2_2
     clear hs
     refine tail_assign (v := (.int .i64 (doneE x (tkA x (tkA x ([]) 0 sLength (numE 0 1099511627776)) (tkE x 0 sLength (numE 0 1099511627776)) sHashes (obE 4)) (failK x.k (tkE x (tkE x 0 sLength (numE 0 1099511627776)) sHashes (obE 4)) (hsOE (f2O x)))))) e37 (by rw [y50]; exact Nat.le_of_ble_eq_true rfl) (fun a52 y52 zz52 e3 hr => ?_)
     replace y52 := y52.trans y50; replace zz52 := zz52.trans zz50
     replace e2 := (hr 2 (by decide)).trans e2
     replace e36 := (hr 36 (by decide)).trans e36
     replace e37 := (hr 37 (by decide)).trans e37
     clear hr
     refine zn (hK49 _ _ ?_)
     refine wp_ret ?_
     refine retCT (v := (.agg #[(.int .i64 (0)), (.slice none 0 0), (.int .u8 (0)), (.int .i64 (0)), (.string (⟨#[]⟩)), (.slice none 0 0), (.slice none 0 0)])) rfl zz52 e2 own_b2_2 agg46 sz46 rfl (fun h => by cases h) rfl e3 ⟨_, rfl, kw, ?_⟩
     refine ⟨_, congrArg (fun q => Value.tuple #[_, Value.int .i64 q]) hoe.symm, ?_⟩
     rw [hov]
     exact sf_fr (rdRc_mk (rd_nil _) (rdV_mk (lbr rfl) (rd_nil _) (rd_nil _) : Rd W51 (SF w [b5_14, bo13_11, bm13_11, b2_2, b1_2]) (V.d (V.mk (0) (0) (⟨#[]⟩) ([]) ([]))) _) : Rd W51 (SF w [b5_14, bo13_11, bm13_11, b2_2, b1_2]) (Rc.d (Rc.mk (0) ([]) (V.mk (0) (0) (⟨#[]⟩) ([]) ([])))) _)
    have hd := bne_eq_false_iff_eq.1 hc
    have hdE : ofRE x = doneE x (f2A x) (f3E x) := by rw [ofRE, if_neg hm, if_neg (by simp [hof]), f4A, f4E, if_neg (by simp [hb]), if_neg (by simp [hb])]
    have hoe : ofRE x = 0 := hdE.trans hd
    have hov : ofRV x = ⟨f1N x, hsOV (f2O x), ⟨0, 0, ⟨#[]⟩, [], []⟩⟩ := by rw [ofRV, if_pos hoe, f4V, if_neg (by simp [hb])]
    refine wp_skip (hK44 _ _ ?_)
    refine zq fun K53 hK53 => ?_
    refine rg mixed y48 zz48 ?_
    refine .i (v := (.agg #[(.int .i64 (zlN x)), (.slice v21_21a ((hsOV (f2O x)).length) v21_21c), (.int .u8 (0)), (.int .i64 (0)), (.string (⟨#[]⟩)), (.slice none 0 0), (.slice none 0 0)])) (loA (hbs rfl e5) own_b5_14 trivial agg46 sz46 rfl rfl) ?_
    refine .dn fun a54 g W54 y54 zz54 hk hg hV hR hP => ?_
    obtain ⟨e38, -⟩ := hV
    replace e2 := ft hR e2
    replace D_v21_21 := D_v21_21.ext hk
    replace e38 := e38.q
    replace own_b2_2 := own_b2_2.ext hk
    replace own_b1_2 := own_b1_2.ext hk
    replace own_bo13_11 := own_bo13_11.ext hk
    replace own_bm13_11 := own_bm13_11.ext hk
    replace own_b5_14 := own_b5_14.ext hk
    replace kw := kw.x hk
    clear hR hk hg hP
    refine tail_store e2 e38 sz46 rfl own_b2_2 (lbr rfl) (all_cons rfl (all_cons rfl (all_cons rfl (all_cons rfl (all_cons rfl (all_cons rfl (all_cons rfl all_nil))))))) (fun W55 hs own_b2_2 => ?_)
    have own_b2_2 : Own W55 b2_2 [(.int .i64 (zlN x)), (.slice v21_21a ((hsOV (f2O x)).length) v21_21c), (.int .u8 (0)), (.int .i64 (0)), (.string (⟨#[]⟩)), (.slice none 0 0), (.slice none 0 0)] 46 := own_b2_2
    replace own_b1_2 := own_store own_b1_2 hs ne_b2_2_b1_2.symm
    replace own_bo13_11 := own_store own_bo13_11 hs ne_b2_2_bo13_11.symm
    replace own_bm13_11 := ownM_store own_bm13_11 hs ne_b2_2_bm13_11.symm
    replace own_b5_14 := own_store own_b5_14 hs ne_b2_2_b5_14.symm
    replace D_v21_21 := sf_store D_v21_21 hs (by simp)
    replace kw := keeps_store kw hs lo_b2_2
    clear hs
    refine tail_assign (v := (.int .i64 (0))) rfl (by rw [y54]; exact Nat.le_of_ble_eq_true rfl) (fun a56 y56 zz56 e3 hr => ?_)
    replace y56 := y56.trans y54; replace zz56 := zz56.trans zz54
    replace e2 := (hr 2 (by decide)).trans e2
    replace e38 := (hr 38 (by decide)).trans e38
    clear hr
    refine zn (hK53 _ _ ?_)
    refine wp_ret ?_
    refine retCT (v := (.agg #[(.int .i64 (zlN x)), (.slice v21_21a ((hsOV (f2O x)).length) v21_21c), (.int .u8 (0)), (.int .i64 (0)), (.string (⟨#[]⟩)), (.slice none 0 0), (.slice none 0 0)])) rfl zz56 e2 own_b2_2 agg46 sz46 rfl (fun h => by cases h) rfl e3 ⟨_, rfl, kw, ?_⟩
    refine ⟨_, congrArg (fun q => Value.tuple #[_, Value.int .i64 q]) hoe.symm, ?_⟩
    rw [hov]
    exact sf_fr (rdRc_mk D_v21_21 (rdV_mk (lbr rfl) (rd_nil _) (rd_nil _) : Rd W55 (SF w [b5_14, bo13_11, bm13_11, b2_2, b1_2]) (V.d (V.mk (0) (0) (⟨#[]⟩) ([]) ([]))) _) : Rd W55 (SF w [b5_14, bo13_11, bm13_11, b2_2, b1_2]) (Rc.d (Rc.mk (zlN x) (hsOV (f2O x)) (V.mk (0) (0) (⟨#[]⟩) ([]) ([])))) _)
  · have hE : errK 0 (ofE x) ≠ 0 := by rw [ofE_dead hof]; exact hof
    obtain ⟨cn0a, cn0c, ci0a, ci0c, ev, ht0, D_cn0, D_ci0⟩ := rdV_out (rd_arg hv)
    subst ev
    refine enter Tryz.func22 rfl Tryz.ntmps22 (lbr rfl) fun a0 y0 zz0 harg => ?_
    have e0 : sl a0 0 = (.agg #[(.int .u8 (x.k)), (.int .i64 (x.n)), (.string (x.t)), (.slice cn0a (x.ns.length) cn0c), (.slice ci0a (x.xs.length) ci0c)]) := harg 0 (lbr rfl)
    have kw := Keeps.refl All w
    clear harg
    refine zq fun K1 hK1 => ?_
    refine rg mixed y0 zz0 ?_
    refine .boxOp (v := (.agg #[(.int .u8 (x.k)), (.int .i64 (x.n)), (.string (x.t)), (.slice cn0a (x.ns.length) cn0c), (.slice ci0a (x.xs.length) ci0c)])) (hbs rfl e0) ?_
    refine .alloc z46 ?_
    refine .ac ?_
    refine .dn fun a2 g W2 y2 zz2 hk hg hV hR hP => ?_
    obtain ⟨-, ⟨b2_2, e2, hb2, own_b2_2⟩, ⟨b1_2, e1, hb1, own_b1_2⟩, -⟩ := hV
    have lo_b2_2 : w.heap.size ≤ b2_2 := Nat.le_trans kw.size (hg.lo _ _ hb2)
    have own_b2_2 : Own W2 b2_2 [(.int .i64 (0)), (.slice none 0 0), (.int .u8 (0)), (.int .i64 (0)), (.string (⟨#[]⟩)), (.slice none 0 0), (.slice none 0 0)] 46 := own_b2_2
    have lo_b1_2 : w.heap.size ≤ b1_2 := Nat.le_trans kw.size (hg.lo _ _ hb1)
    have own_b1_2 : Own W2 b1_2 [(.int .u8 (x.k)), (.int .i64 (x.n)), (.string (x.t)), (.slice cn0a (x.ns.length) cn0c), (.slice ci0a (x.xs.length) ci0c)] 26 := own_b1_2
    have ne_b2_2_b1_2 : b2_2 ≠ b1_2 := fun h => by have := hg.inj _ _ _ hb2 (h ▸ hb1); cases this
    replace D_cn0 := sa_more D_cn0 hk [b2_2, b1_2] (in_cons (hg.lo _ _ hb2) (in_cons (hg.lo _ _ hb1) in_nil))
    replace D_ci0 := sa_more D_ci0 hk [b2_2, b1_2] (in_cons (hg.lo _ _ hb2) (in_cons (hg.lo _ _ hb1) in_nil))
    replace kw := kw.x hk
    clear hR hk hg hP hb2 hb1
    refine zn (hK1 _ _ ?_)
    refine zq fun K3 hK3 => ?_
    refine zq fun K4 hK4 => ?_
    refine rg mixed y2 zz2 ?_
    refine .i (v := (.agg #[(.int .u8 (x.k)), (.int .i64 (x.n)), (.string (x.t)), (.slice cn0a (x.ns.length) cn0c), (.slice ci0a (x.xs.length) ci0c)])) (loA (hbs rfl e1) own_b1_2 trivial agg26 sz26 rfl rfl) ?_
    refine .i (v := (.bool (mayB (x)))) (sp_call1 (φ1 := IsD (SA w S [b2_2, b1_2]) (V.d (x))) ent29 ((hlc rfl).dat (rdV_in (x := x) ht0 D_cn0 D_ci0 : Rd W2 (SA w S [b2_2, b1_2]) (V.d (x)) _) sub_all) (fun g u1 W hk hgk h1 => May_ok (x) (Nat.le_trans (cnt_wt x) hx) W _ _ h1)) ?_
    refine .i (sp_not (hlc rfl)) ?_
    refine .dn fun a5 g W5 y5 zz5 hk hg hV hR hP => ?_
    obtain ⟨e10, -, -, -⟩ := hV
    replace e2 := ft hR e2
    replace e1 := ft hR e1
    replace D_cn0 := D_cn0.ext hk
    replace D_ci0 := D_ci0.ext hk
    replace e10 := e10.q
    replace own_b2_2 := own_b2_2.ext hk
    replace own_b1_2 := own_b1_2.ext hk
    replace kw := kw.x hk
    clear hR hk hg hP
    refine zn (hK4 _ _ ?_)
    refine zc e10 (fun hc => ?_) (fun hc => ?_)
    ·
     have hm : mayB x = false := by simpa using hc
     have hoe : ofRE x = 3 := by rw [ofRE, if_pos hm]
     have hov : ofRV x = ⟨0, [], ⟨0, 0, ⟨#[]⟩, [], []⟩⟩ := by rw [ofRV, hoe]; rfl
     refine zq fun K6 hK6 => ?_
     refine rg mixed y5 zz5 ?_
     refine .i (v := (.agg #[(.int .i64 (0)), (.slice none 0 0), (.int .u8 (0)), (.int .i64 (0)), (.string (⟨#[]⟩)), (.slice none 0 0), (.slice none 0 0)])) (sp_build (vs := []) Tryz.underlying46 z46 (pl46 Tryz.underlying46) trivial rfl) ?_
     refine .dn fun a7 g W7 y7 zz7 hk hg hV hR hP => ?_
     obtain ⟨e11, -⟩ := hV
     replace e2 := ft hR e2
     replace D_cn0 := D_cn0.ext hk
     replace D_ci0 := D_ci0.ext hk
     replace e11 := e11.q
     replace own_b2_2 := own_b2_2.ext hk
     replace own_b1_2 := own_b1_2.ext hk
     replace kw := kw.x hk
     clear hR hk hg hP
     refine tail_store e2 e11 sz46 rfl own_b2_2 (lbr rfl) (all_cons rfl (all_cons rfl (all_cons rfl (all_cons rfl (all_cons rfl (all_cons rfl (all_cons rfl all_nil))))))) (fun W8 hs own_b2_2 => ?_)
     have own_b2_2 : Own W8 b2_2 [(.int .i64 (0)), (.slice none 0 0), (.int .u8 (0)), (.int .i64 (0)), (.string (⟨#[]⟩)), (.slice none 0 0), (.slice none 0 0)] 46 := own_b2_2
     replace own_b1_2 := own_store own_b1_2 hs ne_b2_2_b1_2.symm
     replace D_cn0 := sa_store D_cn0 hs (by simp)
     replace D_ci0 := sa_store D_ci0 hs (by simp)
     replace kw := keeps_store kw hs lo_b2_2
     clear hs
     refine tail_assign (v := (.int .i64 (3))) rfl (by rw [y7]; exact Nat.le_of_ble_eq_true rfl) (fun a9 y9 zz9 e3 hr => ?_)
     replace y9 := y9.trans y7; replace zz9 := zz9.trans zz7
     replace e2 := (hr 2 (by decide)).trans e2
     replace e11 := (hr 11 (by decide)).trans e11
     clear hr
     refine zn (hK6 _ _ ?_)
     refine wp_ret ?_
     refine retCT (v := (.agg #[(.int .i64 (0)), (.slice none 0 0), (.int .u8 (0)), (.int .i64 (0)), (.string (⟨#[]⟩)), (.slice none 0 0), (.slice none 0 0)])) rfl zz9 e2 own_b2_2 agg46 sz46 rfl (fun h => by cases h) rfl e3 ⟨_, rfl, kw, ?_⟩
     refine ⟨_, congrArg (fun q => Value.tuple #[_, Value.int .i64 q]) hoe.symm, ?_⟩
     rw [hov]
     exact sf_fr (rdRc_mk (rd_nil _) (rdV_mk (lbr rfl) (rd_nil _) (rd_nil _) : Rd W8 (SF w [b2_2, b1_2]) (V.d (V.mk (0) (0) (⟨#[]⟩) ([]) ([]))) _) : Rd W8 (SF w [b2_2, b1_2]) (Rc.d (Rc.mk (0) ([]) (V.mk (0) (0) (⟨#[]⟩) ([]) ([])))) _)
    have hm : ¬ mayB x = false := by simpa using hc
    refine wp_skip (hK3 _ _ ?_)
    refine zq fun K10 hK10 => ?_
    refine rg mixed y5 zz5 ?_
    refine .i (v := (.agg #[(.int .u8 (x.k)), (.int .i64 (x.n)), (.string (x.t)), (.slice cn0a (x.ns.length) cn0c), (.slice ci0a (x.xs.length) ci0c)])) (loA (hbs rfl e1) own_b1_2 trivial agg26 sz26 rfl rfl) ?_
    refine .op (φ := IsPkD W5 74 (ofE x)) st_pkd (sp_call1 (φ1 := IsD (SA w S [b2_2, b1_2]) (V.d (x))) ent35 ((hlc rfl).dat (rdV_in (x := x) ht0 D_cn0 D_ci0 : Rd W5 (SA w S [b2_2, b1_2]) (V.d (x)) _) sub_all) (fun g u1 W hk hgk h1 => (OfD_ok (x) hof W _ _ h1).mono (fun _ _ ⟨v, h1, h2, h3⟩ => ⟨v, h1, h2, pkd_up hk h3⟩))) ?_
    refine .dn fun a11 g W11 y11 zz11 hk hg hV hR hP => ?_
    obtain ⟨e13, -, -⟩ := hV
    replace e2 := ft hR e2
    obtain ⟨bo13_11, e13, lr_bo13_11, own_bo13_11⟩ := e13
    have e13 : sl a11 13 = (.pointer (some ⟨bo13_11, 0, none⟩)) := e13
    have lo_bo13_11 : w.heap.size ≤ bo13_11 := Nat.le_trans kw.size lr_bo13_11
    have ne_b2_2_bo13_11 : b2_2 ≠ bo13_11 := Nat.ne_of_lt (Nat.lt_of_lt_of_le own_b2_2.lt lr_bo13_11)
    have ne_b1_2_bo13_11 : b1_2 ≠ bo13_11 := Nat.ne_of_lt (Nat.lt_of_lt_of_le own_b1_2.lt lr_bo13_11)
    replace D_cn0 : Rd W11 (SA w S [bo13_11, b2_2, b1_2]) (strsD (x.ns)) (.slice cn0a (x.ns.length) cn0c) := sa_more D_cn0 hk [bo13_11] (in_cons lr_bo13_11 in_nil)
    replace D_ci0 : Rd W11 (SA w S [bo13_11, b2_2, b1_2]) (valsD (x.xs)) (.slice ci0a (x.xs.length) ci0c) := sa_more D_ci0 hk [bo13_11] (in_cons lr_bo13_11 in_nil)
    have own_bo13_11 : Own W11 bo13_11 [(.int .u8 (0)), (.int .i64 (0)), (.string (⟨#[]⟩)), (.slice none 0 0), (.slice none 0 0), (.map none), (.int .i64 (ofE x))] 74 := own_bo13_11
    replace own_b2_2 := own_b2_2.ext hk
    replace own_b1_2 := own_b1_2.ext hk
    replace kw := kw.x hk
    clear hR hk hg hP lr_bo13_11
    refine tail_assign (v := (.pointer (some ⟨bo13_11, 0, none⟩))) e13 (by rw [y11]; exact Nat.le_of_ble_eq_true rfl) (fun a12 y12 zz12 e4 hr => ?_)
    replace y12 := y12.trans y11; replace zz12 := zz12.trans zz11
    replace e2 := (hr 2 (by decide)).trans e2
    replace e13 := (hr 13 (by decide)).trans e13
    clear hr
    refine zn (hK10 _ _ ?_)
    refine zq fun K13 hK13 => ?_
    refine rg mixed y12 zz12 ?_
    refine .alloc z46 ?_
    refine .dn fun a14 g W14 y14 zz14 hk hg hV hR hP => ?_
    obtain ⟨⟨b5_14, e5, hb5, own_b5_14⟩, -⟩ := hV
    have lo_b5_14 : w.heap.size ≤ b5_14 := Nat.le_trans kw.size (hg.lo _ _ hb5)
    have ne_b2_2_b5_14 : b2_2 ≠ b5_14 := Nat.ne_of_lt (Nat.lt_of_lt_of_le own_b2_2.lt (hg.lo _ _ hb5))
    have ne_b1_2_b5_14 : b1_2 ≠ b5_14 := Nat.ne_of_lt (Nat.lt_of_lt_of_le own_b1_2.lt (hg.lo _ _ hb5))
    have ne_bo13_11_b5_14 : bo13_11 ≠ b5_14 := Nat.ne_of_lt (Nat.lt_of_lt_of_le own_bo13_11.lt (hg.lo _ _ hb5))
    have own_b5_14 : Own W14 b5_14 [(.int .i64 (0)), (.slice none 0 0), (.int .u8 (0)), (.int .i64 (0)), (.string (⟨#[]⟩)), (.slice none 0 0), (.slice none 0 0)] 46 := own_b5_14
    replace e2 := ft hR e2
    replace e4 := ft hR e4
    replace own_b2_2 := own_b2_2.ext hk
    replace own_b1_2 := own_b1_2.ext hk
    replace own_bo13_11 := own_bo13_11.ext hk
    replace kw := kw.x hk
    clear hR hk hg hP hb5
    refine zn (hK13 _ _ ?_)
    refine zq fun K15 hK15 => ?_
    refine rg mixed y14 zz14 ?_
    refine .ac ?_
    refine .dn fun a16 g W16 y16 zz16 hk hg hV hR hP => ?_
    obtain ⟨-, -⟩ := hV
    replace e2 := ft hR e2
    replace e4 := ft hR e4
    replace e5 := ft hR e5
    replace own_b2_2 := own_b2_2.ext hk
    replace own_b1_2 := own_b1_2.ext hk
    replace own_bo13_11 := own_bo13_11.ext hk
    replace own_b5_14 := own_b5_14.ext hk
    replace kw := kw.x hk
    clear hR hk hg hP
    refine zn (hK15 _ _ ?_)
    refine zq fun K17 hK17 => ?_
    refine rg mixed y16 zz16 ?_
    refine .mb rfl e4 ?_
    refine .i (v := (.int .i64 (0))) (sp_call4 (φ1 := Is (.pointer (some ⟨bo13_11, 0, none⟩))) (φ2 := Is (.string sLength)) (φ3 := Is (.int .i64 (0))) (φ4 := Is (.int .i64 (1099511627776))) ent36 (hlc rfl) Has.cst Has.cst Has.cst (fun g u1 u2 u3 u4 W hk hgk h1 h2 h3 h4 => by have h1 : u1 = _ := h1; subst u1; have h2 : u2 = _ := h2; subst u2; have h3 : u3 = _ := h3; subst u3; have h4 : u4 = _ := h4; subst u4; exact NumD_ok _ _ _ _ _ _ _ hE _ _ _ W _ (own_bo13_11.ext hk))) ?_
    refine .i (fo 0 (hbs rfl e5) Tryz.underlying46 rfl sz2 rfl) ?_
    refine .dn fun a18 g W18 y18 zz18 hk hg hV hR hP => ?_
    obtain ⟨e16, e15, -, -⟩ := hV
    replace e2 := ft hR e2
    replace e4 := ft hR e4
    replace e5 := ft hR e5
    replace e15 := e15.q
    have e16 : sl a18 16 = (.pointer (some ⟨b5_14, 0, none⟩)) := e16
    replace own_b2_2 := own_b2_2.ext hk
    replace own_b1_2 := own_b1_2.ext hk
    replace own_bo13_11 := own_bo13_11.ext hk
    replace own_b5_14 := own_b5_14.ext hk
    replace kw := kw.x hk
    clear hR hk hg hP
    refine tail_store e16 e15 sz2 rfl own_b5_14 (lbr rfl) (all_cons rfl all_nil) (fun W19 hs own_b5_14 => ?_)
    have own_b5_14 : Own W19 b5_14 [(.int .i64 (0)), (.slice none 0 0), (.int .u8 (0)), (.int .i64 (0)), (.string (⟨#[]⟩)), (.slice none 0 0), (.slice none 0 0)] 46 := own_b5_14
    replace own_b2_2 := own_store own_b2_2 hs ne_b2_2_b5_14
    replace own_b1_2 := own_store own_b1_2 hs ne_b1_2_b5_14
    replace own_bo13_11 := own_store own_bo13_11 hs ne_bo13_11_b5_14
    replace kw := keeps_store kw hs lo_b5_14
    clear hs
    refine zn (hK17 _ _ ?_)
    refine zq fun K20 hK20 => ?_
    refine rg mixed y18 zz18 ?_
    refine .mb rfl e4 ?_
    refine .i (v := (.agg #[(.int .u8 (0)), (.int .i64 (0)), (.string (⟨#[]⟩)), (.slice none 0 0), (.slice none 0 0)])) (sp_call3 (φ1 := Is (.pointer (some ⟨bo13_11, 0, none⟩))) (φ2 := Is (.string sHashes)) (φ3 := Is (.int .i64 (4))) ent37 (hlc rfl) Has.cst Has.cst (fun g u1 u2 u3 W hk hgk h1 h2 h3 => by have h1 : u1 = _ := h1; subst u1; have h2 : u2 = _ := h2; subst u2; have h3 : u3 = _ := h3; subst u3; exact ObjectD_ok _ _ _ _ _ _ _ hE _ _ W _ (own_bo13_11.ext hk))) ?_
    refine .op (φ := IsT (IsD (Fr W19) (hssD (hsOV (V.mk (0) (0) (⟨#[]⟩) ([]) ([]))))) (Is (.int .i64 (hsOE (V.mk (0) (0) (⟨#[]⟩) ([]) ([])))))) (st_t (st_d sub_all) (st_is _)) (sp_call1 (φ1 := IsD (SF w [b5_14, bo13_11, b2_2, b1_2]) (V.d (V.mk (0) (0) (⟨#[]⟩) ([]) ([])))) ent9 ((hlc rfl).dat (rdV_mk (by decide) (rd_nil _) (rd_nil _) : Rd W19 (SF w [b5_14, bo13_11, b2_2, b1_2]) (V.d (V.mk (0) (0) (⟨#[]⟩) ([]) ([]))) _) sub_all) (fun g u1 W hk hgk h1 => (HashesOf_ok (V.mk (0) (0) (⟨#[]⟩) ([]) ([])) (Nat.le_of_ble_eq_true (by kernel_rfl)) W _ _ h1).mono (fun _ _ ⟨v, h1, h2, r1, h3, h4⟩ => ⟨v, h1, h2, r1, _, h3, fresh_d hk hgk h4, rfl⟩))) ?_
    refine .op (φ := IsT (IsD (Fr W19) (hssD (hsOV (V.mk (0) (0) (⟨#[]⟩) ([]) ([]))))) (Is (.int .i64 (hsOE (V.mk (0) (0) (⟨#[]⟩) ([]) ([])))))) (st_t (st_d sub_all) (st_is _)) (sp_move (hlc rfl)) ?_
    refine .da (X := Fr W19) (e := hssD (hsOV (V.mk (0) (0) (⟨#[]⟩) ([]) ([])))) (sp_ext2 (hlc rfl) rfl) ?_
    refine .i (v := (.int .i64 (hsOE (V.mk (0) (0) (⟨#[]⟩) ([]) ([]))))) (sp_ext2' (hlc rfl) rfl) ?_
    refine .i (fo 1 (hbs rfl e5) Tryz.underlying46 rfl sz22 rfl) ?_
    refine .dn fun a21 g W21 y21 zz21 hk hg hV hR hP => ?_
    obtain ⟨e23, e22, e21, -, -, -, -, -⟩ := hV
    replace e2 := ft hR e2
    replace e4 := ft hR e4
    replace e5 := ft hR e5
    obtain ⟨v21_21, ev⟩ : ∃ v, sl a21 21 = v := ⟨_, rfl⟩
    rw [ev] at e21
    have D_v21_21 : Rd W21 (SF w [b5_14, bo13_11, b2_2, b1_2]) (hssD (hsOV (V.mk (0) (0) (⟨#[]⟩) ([]) ([])))) v21_21 := fr_end (M := [b5_14, bo13_11, b2_2, b1_2]) e21 kw [] in_nil (in_cons own_b5_14.lt (in_cons own_bo13_11.lt (in_cons own_b2_2.lt (in_cons own_b1_2.lt in_nil))))
    replace e21 := ev; clear ev
    obtain ⟨v21_21a, v21_21c, ev, D2⟩ := rdHss_out D_v21_21
    subst ev; replace D_v21_21 := D2; clear D2
    replace e22 := e22.q
    have e23 : sl a21 23 = (.pointer (some ⟨b5_14, 1, none⟩)) := e23
    replace own_b2_2 := own_b2_2.ext hk
    replace own_b1_2 := own_b1_2.ext hk
    replace own_bo13_11 := own_bo13_11.ext hk
    replace own_b5_14 := own_b5_14.ext hk
    replace kw := kw.x hk
    clear hR hk hg hP
    refine tail_store e23 e21 sz22 rfl own_b5_14 (lbr rfl) (all_cons rfl all_nil) (fun W22 hs own_b5_14 => ?_)
    have own_b5_14 : Own W22 b5_14 [(.int .i64 (0)), (.slice v21_21a ((hsOV (V.mk (0) (0) (⟨#[]⟩) ([]) ([]))).length) v21_21c), (.int .u8 (0)), (.int .i64 (0)), (.string (⟨#[]⟩)), (.slice none 0 0), (.slice none 0 0)] 46 := own_b5_14
    replace own_b2_2 := own_store own_b2_2 hs ne_b2_2_b5_14
    replace own_b1_2 := own_store own_b1_2 hs ne_b1_2_b5_14
    replace own_bo13_11 := own_store own_bo13_11 hs ne_bo13_11_b5_14
    replace D_v21_21 := sf_store D_v21_21 hs (by simp)
    replace kw := keeps_store kw hs lo_b5_14
    clear hs
    refine tail_assign (v := (.int .i64 (hsOE (V.mk (0) (0) (⟨#[]⟩) ([]) ([]))))) e22 (by rw [y21]; exact Nat.le_of_ble_eq_true rfl) (fun a23 y23 zz23 e6 hr => ?_)
    replace y23 := y23.trans y21; replace zz23 := zz23.trans zz21
    replace e2 := (hr 2 (by decide)).trans e2
    replace e4 := (hr 4 (by decide)).trans e4
    replace e5 := (hr 5 (by decide)).trans e5
    replace e21 := (hr 21 (by decide)).trans e21
    replace e22 := (hr 22 (by decide)).trans e22
    replace e23 := (hr 23 (by decide)).trans e23
    clear hr
    refine zn (hK20 _ _ ?_)
    refine zq fun K24 hK24 => ?_
    refine wp_reg (fun k => k ∉ [bo13_11]) (Ψ := fun W => Own W bo13_11 [(.int .u8 (0)), (.int .i64 (0)), (.string (⟨#[]⟩)), (.slice none 0 0), (.slice none 0 0), (.map none), (.int .i64 (ofE x))] 74) mixed y23 zz23 stE_own own_bo13_11 ?_
    refine .mb rfl e4 ?_
    refine .mb rfl e6 ?_
    refine .callL2 (φ1 := Is (.pointer (some ⟨bo13_11, 0, none⟩))) (φ2 := Is (.int .i64 (hsOE (V.mk (0) (0) (⟨#[]⟩) ([]) ([]))))) (φ := Is (.tuple #[])) (Ψ' := fun W => Own W bo13_11 [(.int .u8 (0)), (.int .i64 (0)), (.string (⟨#[]⟩)), (.slice none 0 0), (.slice none 0 0), (.map none), (.int .i64 (ofE x))] 74) ent38 (hlc rfl) (hlc rfl) (st_is _) stE_own (fun g u1 u2 W hk hg h1 h2 hP => by have h1 : u1 = _ := h1; subst u1; have h2 : u2 = _ := h2; subst u2; exact (Fail_ok _ _ _ _ _ _ _ (hsOE (V.mk (0) (0) (⟨#[]⟩) ([]) ([]))) W _ hP).mono (fun _ _ ⟨v, h1, h2, h3, h4⟩ => ⟨v, h1, h2, h3, by rw [failK_dead hE] at h4; exact h4⟩)) ?_
    refine .dn fun a25 g W25 y25 zz25 hk hg hV hR hP => ?_
    obtain ⟨-, -, -, -⟩ := hV
    replace e2 := ft hR e2
    replace e4 := ft hR e4
    replace e5 := ft hR e5
    replace D_v21_21 := sf_keepL D_v21_21 hk (by simp)
    replace own_b2_2 := own_keepL own_b2_2 hk (by simp [ne_b2_2_bo13_11])
    replace own_b1_2 := own_keepL own_b1_2 hk (by simp [ne_b1_2_bo13_11])
    replace own_b5_14 := own_keepL own_b5_14 hk (by simp [ne_bo13_11_b5_14.symm])
    have own_bo13_11 := hP
    replace own_bo13_11 : Own W25 bo13_11 [(.int .u8 (0)), (.int .i64 (0)), (.string (⟨#[]⟩)), (.slice none 0 0), (.slice none 0 0), (.map none), (.int .i64 (ofE x))] 74 := own_bo13_11
    replace kw := keeps_L kw hk (in_cons (.inl lo_bo13_11) in_nil)
    clear hR hk hg hP
    refine zn (hK24 _ _ ?_)
    refine zq fun K26 hK26 => ?_
    refine zq fun K27 hK27 => ?_
    refine rg mixed y25 zz25 ?_
    refine .mb rfl e4 ?_
    refine .i (v := (.bool (false))) (sp_call2 (φ1 := Is (.pointer (some ⟨bo13_11, 0, none⟩))) (φ2 := Is (.string sCustom)) ent39 (hlc rfl) Has.cst (fun g u1 u2 W hk hgk h1 h2 => by have h1 : u1 = _ := h1; subst u1; have h2 : u2 = _ := h2; subst u2; exact HasOD_ok _ _ _ _ _ _ _ hE _ W _ (own_bo13_11.ext hk))) ?_
    refine .dn fun a28 g W28 y28 zz28 hk hg hV hR hP => ?_
    obtain ⟨e28, -, -⟩ := hV
    replace e2 := ft hR e2
    replace e4 := ft hR e4
    replace e5 := ft hR e5
    replace D_v21_21 := D_v21_21.ext hk
    replace e28 := e28.q
    replace own_b2_2 := own_b2_2.ext hk
    replace own_b1_2 := own_b1_2.ext hk
    replace own_bo13_11 := own_bo13_11.ext hk
    replace own_b5_14 := own_b5_14.ext hk
    replace kw := kw.x hk
    clear hR hk hg hP
    refine zn (hK27 _ _ ?_)
    refine wp_cond_false e28 ?_
    refine wp_skip (hK26 _ _ ?_)
    refine zq fun K29 hK29 => ?_
    refine zq fun K30 hK30 => ?_
    refine rg mixed y28 zz28 ?_
    refine .mb rfl e4 ?_
    refine .i (v := (.int .i64 (errK 0 (ofE x)))) (sp_call1 (φ1 := Is (.pointer (some ⟨bo13_11, 0, none⟩))) ent41 (hlc rfl) (fun g u1 W hk hgk h1 => by have h1 : u1 = _ := h1; subst u1; exact DoneD_ok _ _ _ _ _ _ _ hE W _ (own_bo13_11.ext hk))) ?_
    refine .al rfl ?_
    refine .dn fun a31 g W31 y31 zz31 hk hg hV hR hP => ?_
    obtain ⟨e7, -, -, -⟩ := hV
    replace e2 := ft hR e2
    replace e5 := ft hR e5
    replace D_v21_21 := D_v21_21.ext hk
    replace e7 := e7.q
    replace own_b2_2 := own_b2_2.ext hk
    replace own_b1_2 := own_b1_2.ext hk
    replace own_bo13_11 := own_bo13_11.ext hk
    replace own_b5_14 := own_b5_14.ext hk
    replace kw := kw.x hk
    clear hR hk hg hP
    refine zn (hK30 _ _ ?_)
    refine zq fun K32 hK32 => ?_
    refine rg mixed y31 zz31 ?_
    refine .mb rfl e7 ?_
    refine .i (sp_neq (hlc rfl) Has.cst) ?_
    refine .dn fun a33 g W33 y33 zz33 hk hg hV hR hP => ?_
    obtain ⟨e35, -, -⟩ := hV
    replace e2 := ft hR e2
    replace e5 := ft hR e5
    replace e7 := ft hR e7
    replace D_v21_21 := D_v21_21.ext hk
    replace e35 := e35.q
    replace own_b2_2 := own_b2_2.ext hk
    replace own_b1_2 := own_b1_2.ext hk
    replace own_bo13_11 := own_bo13_11.ext hk
    replace own_b5_14 := own_b5_14.ext hk
    replace kw := kw.x hk
    clear hR hk hg hP
    refine zn (hK32 _ _ ?_)
    refine zc e35 (fun hc => ?_) (fun hc => ?_)
    ·
     have hoe : ofRE x = errK 0 (ofE x) := by rw [ofRE, if_neg hm, if_pos hof, ofE_dead hof]
     have hov : ofRV x = ⟨0, [], ⟨0, 0, ⟨#[]⟩, [], []⟩⟩ := by rw [ofRV, if_neg (by rw [hoe]; exact hE)]
     refine zq fun K34 hK34 => ?_
     refine rg mixed y33 zz33 ?_
     refine .i (v := (.agg #[(.int .i64 (0)), (.slice none 0 0), (.int .u8 (0)), (.int .i64 (0)), (.string (⟨#[]⟩)), (.slice none 0 0), (.slice none 0 0)])) (sp_build (vs := []) Tryz.underlying46 z46 (pl46 Tryz.underlying46) trivial rfl) ?_
     refine .mb rfl e7 ?_
     refine .dn fun a35 g W35 y35 zz35 hk hg hV hR hP => ?_
     obtain ⟨e37, e36, -⟩ := hV
     replace e2 := ft hR e2
     replace D_v21_21 := D_v21_21.ext hk
     replace e36 := e36.q
     replace e37 := e37.q
     replace own_b2_2 := own_b2_2.ext hk
     replace own_b1_2 := own_b1_2.ext hk
     replace own_bo13_11 := own_bo13_11.ext hk
     replace own_b5_14 := own_b5_14.ext hk
     replace kw := kw.x hk
     clear hR hk hg hP
     refine tail_store e2 e36 sz46 rfl own_b2_2 (lbr rfl) (all_cons rfl (all_cons rfl (all_cons rfl (all_cons rfl (all_cons rfl (all_cons rfl (all_cons rfl all_nil))))))) (fun W36 hs own_b2_2 => ?_)
     have own_b2_2 : Own W36 b2_2 [(.int .i64 (0)), (.slice none 0 0), (.int .u8 (0)), (.int .i64 (0)), (.string (⟨#[]⟩)), (.slice none 0 0), (.slice none 0 0)] 46 := own_b2_2
     replace own_b1_2 := own_store own_b1_2 hs ne_b2_2_b1_2.symm
     replace own_bo13_11 := own_store own_bo13_11 hs ne_b2_2_bo13_11.symm
     replace own_b5_14 := own_store own_b5_14 hs ne_b2_2_b5_14.symm
     replace D_v21_21 := sf_store D_v21_21 hs (by simp)
     replace kw := keeps_store kw hs lo_b2_2
     clear hs
     refine tail_assign (v := (.int .i64 (errK 0 (ofE x)))) e37 (by rw [y35]; exact Nat.le_of_ble_eq_true rfl) (fun a37 y37 zz37 e3 hr => ?_)
     replace y37 := y37.trans y35; replace zz37 := zz37.trans zz35
     replace e2 := (hr 2 (by decide)).trans e2
     replace e36 := (hr 36 (by decide)).trans e36
     replace e37 := (hr 37 (by decide)).trans e37
     clear hr
     refine zn (hK34 _ _ ?_)
     refine wp_ret ?_
     refine retCT (v := (.agg #[(.int .i64 (0)), (.slice none 0 0), (.int .u8 (0)), (.int .i64 (0)), (.string (⟨#[]⟩)), (.slice none 0 0), (.slice none 0 0)])) rfl zz37 e2 own_b2_2 agg46 sz46 rfl (fun h => by cases h) rfl e3 ⟨_, rfl, kw, ?_⟩
     refine ⟨_, congrArg (fun q => Value.tuple #[_, Value.int .i64 q]) hoe.symm, ?_⟩
     rw [hov]
     exact sf_fr (rdRc_mk (rd_nil _) (rdV_mk (lbr rfl) (rd_nil _) (rd_nil _) : Rd W36 (SF w [b5_14, bo13_11, b2_2, b1_2]) (V.d (V.mk (0) (0) (⟨#[]⟩) ([]) ([]))) _) : Rd W36 (SF w [b5_14, bo13_11, b2_2, b1_2]) (Rc.d (Rc.mk (0) ([]) (V.mk (0) (0) (⟨#[]⟩) ([]) ([])))) _)
    exact absurd (bne_eq_false_iff_eq.1 hc) hE
set_option maxRecDepth 100000 in
theorem obj21_ok (ns : List ByteArray) (xs : List V) (w : World) (S : BSet) (v u : Value) (hv : Rd w S (strsD ns) v) (hu : Rd w S (valsD xs) u) : Calls Tryz.prog 21 #[v, u] w (Ret w fun u W => Rd W (Ar w S) (V.d (V.mk 5 0 ⟨#[]⟩ ns xs)) u) := by
 obtain ⟨va, vc, ev, D_v⟩ := rdS_out (rd_arg hv)
 subst ev
 obtain ⟨ua, uc, ev, D_u⟩ := rdVs_out (rd_arg hu)
 subst ev
 refine enter Tryz.func21 rfl Tryz.ntmps21 (lbr rfl) fun a0 y0 zz0 harg => ?_
 have e0 : sl a0 0 = (.slice va (ns.length) vc) := harg 0 (lbr rfl)
 have e1 : sl a0 1 = (.slice ua (xs.length) uc) := harg 1 (lbr rfl)
 have kw := Keeps.refl All w
 clear harg
 refine zq fun K1 hK1 => ?_
 refine rg mixed y0 zz0 ?_
 refine .alloc z26 ?_
 refine .dn fun a2 g W2 y2 zz2 hk hg hV hR hP => ?_
 obtain ⟨⟨b4_2, e4, hb4, own_b4_2⟩, -⟩ := hV
 have lo_b4_2 : w.heap.size ≤ b4_2 := Nat.le_trans kw.size (hg.lo _ _ hb4)
 have own_b4_2 : Own W2 b4_2 [(.int .u8 (0)), (.int .i64 (0)), (.string (⟨#[]⟩)), (.slice none 0 0), (.slice none 0 0)] 26 := own_b4_2
 replace e0 := ft hR e0
 replace e1 := ft hR e1
 replace D_v := sa_more D_v hk [b4_2] (in_cons (hg.lo _ _ hb4) in_nil)
 replace D_u := sa_more D_u hk [b4_2] (in_cons (hg.lo _ _ hb4) in_nil)
 replace kw := kw.x hk
 clear hR hk hg hP hb4
 refine zn (hK1 _ _ ?_)
 refine zq fun K3 hK3 => ?_
 refine rg mixed y2 zz2 ?_
 refine .mb rfl e0 ?_
 refine .mb rfl e1 ?_
 refine .i (v := (.agg #[(.int .u8 (5)), (.int .i64 (0)), (.string (⟨#[]⟩)), (.slice va (ns.length) vc), (.slice ua (xs.length) uc)])) (sp_build (vs := [(0, (.int .u8 (5))), (3, (.slice va (ns.length) vc)), (4, (.slice ua (xs.length) uc))]) Tryz.underlying26 z26 (pl26 Tryz.underlying26) ⟨rfl, Has.cst, rfl, (hlc rfl), rfl, (hlc rfl), trivial⟩ rfl) ?_
 refine .dn fun a4 g W4 y4 zz4 hk hg hV hR hP => ?_
 obtain ⟨e7, -, -, -⟩ := hV
 replace e4 := ft hR e4
 replace D_v := D_v.ext hk
 replace D_u := D_u.ext hk
 replace e7 := e7.q
 replace own_b4_2 := own_b4_2.ext hk
 replace kw := kw.x hk
 clear hR hk hg hP
 refine tail_store e4 e7 sz26 rfl own_b4_2 (lbr rfl) (all_cons rfl (all_cons rfl (all_cons rfl (all_cons rfl (all_cons rfl all_nil))))) (fun W5 hs own_b4_2 => ?_)
 have own_b4_2 : Own W5 b4_2 [(.int .u8 (5)), (.int .i64 (0)), (.string (⟨#[]⟩)), (.slice va (ns.length) vc), (.slice ua (xs.length) uc)] 26 := own_b4_2
 replace D_v := sa_store D_v hs (by simp)
 replace D_u := sa_store D_u hs (by simp)
 replace kw := keeps_store kw hs lo_b4_2
 clear hs
 refine zn (hK3 _ _ ?_)
 refine wp_ret ?_
 refine retC (v := (.agg #[(.int .u8 (5)), (.int .i64 (0)), (.string (⟨#[]⟩)), (.slice va (ns.length) vc), (.slice ua (xs.length) uc)])) rfl zz4 e4 own_b4_2 agg26 sz26 rfl (fun h => by cases h) rfl ⟨_, rfl, kw, ?_⟩
 exact sa_ar (rdV_mk (lbr rfl) D_v D_u : Rd W5 (SA w S [b4_2]) (V.d (V.mk (5) (0) (⟨#[]⟩) (ns) (xs))) _)
end Go.Proofs.YtnobijngkpflcaaGreat
namespace Go.Proofs.YtnobijngkpflcaaGreat
open Go.Eng
abbrev awV : V := V.mk 5 0 ⟨#[]⟩ ([sCustom, sHashes, sLength]) ([V.mk (1) (1) (⟨#[]⟩) ([]) ([]), V.mk 5 0 ⟨#[]⟩ ([⟨#[115, 104, 97, 50, 53, 54]⟩]) ([V.mk (3) (0) (⟨#[97, 98]⟩) ([]) ([])]), V.mk (2) (3) (⟨#[]⟩) ([]) ([])])
abbrev awR : Rc := Rc.mk (3) ([Hs.mk (⟨#[115, 104, 97, 50, 53, 54]⟩) (⟨#[97, 98]⟩)]) (V.mk (1) (1) (⟨#[]⟩) ([]) ([]))
set_option maxRecDepth 100000 in
set_option maxHeartbeats 2000000 in
theorem awakeR_ok (w : World) : Calls Tryz.prog 6 #[] w (Ret w fun u _ => u = .bool true) := by
 refine enter Tryz.func6 rfl Tryz.ntmps6 (lbr rfl) fun a0 y0 zz0 harg => ?_
 have kw := Keeps.refl All w
 clear harg
 refine zq fun K1 hK1 => ?_
 refine rg mixed y0 zz0 ?_
 refine .ac ?_
 refine .dn fun a2 g W2 y2 zz2 hk hg hV hR hP => ?_
 obtain ⟨-, -⟩ := hV
 replace kw := kw.x hk
 clear hR hk hg hP
 refine zn (hK1 _ _ ?_)
 refine zq fun K3 hK3 => ?_
 refine rg mixed y2 zz2 ?_
 refine .i (v := (.agg #[(.int .u8 (2)), (.int .i64 (3)), (.string (⟨#[]⟩)), (.slice none 0 0), (.slice none 0 0)])) (sp_build (vs := [(0, (.int .u8 (2))), (1, (.int .i64 (3)))]) Tryz.underlying26 z26 (pl26 Tryz.underlying26) ⟨rfl, Has.cst, rfl, Has.cst, trivial⟩ rfl) ?_
 refine .i (v := (.agg #[(.int .u8 (3)), (.int .i64 (0)), (.string (⟨#[97, 98]⟩)), (.slice none 0 0), (.slice none 0 0)])) (sp_build (vs := [(0, (.int .u8 (3))), (2, (.string (⟨#[97, 98]⟩)))]) Tryz.underlying26 z26 (pl26 Tryz.underlying26) ⟨rfl, Has.cst, rfl, Has.cst, trivial⟩ rfl) ?_
 refine .alloc z26 ?_
 refine .alloc z26 ?_
 refine .dn fun a4 g W4 y4 zz4 hk hg hV hR hP => ?_
 obtain ⟨⟨b2_4, e2, hb2, own_b2_4⟩, ⟨b1_4, e1, hb1, own_b1_4⟩, e19, e18, -⟩ := hV
 have lo_b2_4 : w.heap.size ≤ b2_4 := Nat.le_trans kw.size (hg.lo _ _ hb2)
 have own_b2_4 : Own W4 b2_4 [(.int .u8 (0)), (.int .i64 (0)), (.string (⟨#[]⟩)), (.slice none 0 0), (.slice none 0 0)] 26 := own_b2_4
 have lo_b1_4 : w.heap.size ≤ b1_4 := Nat.le_trans kw.size (hg.lo _ _ hb1)
 have own_b1_4 : Own W4 b1_4 [(.int .u8 (0)), (.int .i64 (0)), (.string (⟨#[]⟩)), (.slice none 0 0), (.slice none 0 0)] 26 := own_b1_4
 have ne_b2_4_b1_4 : b2_4 ≠ b1_4 := fun h => by have := hg.inj _ _ _ hb2 (h ▸ hb1); cases this
 replace e18 := e18.q
 replace e19 := e19.q
 replace kw := kw.x hk
 clear hR hk hg hP hb2 hb1
 refine tail_store e1 e18 sz26 rfl own_b1_4 (lbr rfl) (all_cons rfl (all_cons rfl (all_cons rfl (all_cons rfl (all_cons rfl all_nil))))) (fun W5 hs own_b1_4 => ?_)
 have own_b1_4 : Own W5 b1_4 [(.int .u8 (2)), (.int .i64 (3)), (.string (⟨#[]⟩)), (.slice none 0 0), (.slice none 0 0)] 26 := own_b1_4
 replace own_b2_4 := own_store own_b2_4 hs ne_b2_4_b1_4
 replace kw := keeps_store kw hs lo_b1_4
 clear hs
 refine tail_store e2 e19 sz26 rfl own_b2_4 (lbr rfl) (all_cons rfl (all_cons rfl (all_cons rfl (all_cons rfl (all_cons rfl all_nil))))) (fun W6 hs own_b2_4 => ?_)
 have own_b2_4 : Own W6 b2_4 [(.int .u8 (3)), (.int .i64 (0)), (.string (⟨#[97, 98]⟩)), (.slice none 0 0), (.slice none 0 0)] 26 := own_b2_4
 replace own_b1_4 := own_store own_b1_4 hs ne_b2_4_b1_4.symm
 replace kw := keeps_store kw hs lo_b2_4
 clear hs
 refine zn (hK3 _ _ ?_)
 refine zq fun K7 hK7 => ?_
 refine rg mixed y4 zz4 ?_
 refine .i (v := (.agg #[(.int .u8 (1)), (.int .i64 (1)), (.string (⟨#[]⟩)), (.slice none 0 0), (.slice none 0 0)])) (sp_build (vs := [(0, (.int .u8 (1))), (1, (.int .i64 (1)))]) Tryz.underlying26 z26 (pl26 Tryz.underlying26) ⟨rfl, Has.cst, rfl, Has.cst, trivial⟩ rfl) ?_
 refine .alloc z26 ?_
 refine .dn fun a8 g W8 y8 zz8 hk hg hV hR hP => ?_
 obtain ⟨⟨b3_8, e3, hb3, own_b3_8⟩, e20, -⟩ := hV
 have lo_b3_8 : w.heap.size ≤ b3_8 := Nat.le_trans kw.size (hg.lo _ _ hb3)
 have ne_b2_4_b3_8 : b2_4 ≠ b3_8 := Nat.ne_of_lt (Nat.lt_of_lt_of_le own_b2_4.lt (hg.lo _ _ hb3))
 have ne_b1_4_b3_8 : b1_4 ≠ b3_8 := Nat.ne_of_lt (Nat.lt_of_lt_of_le own_b1_4.lt (hg.lo _ _ hb3))
 have own_b3_8 : Own W8 b3_8 [(.int .u8 (0)), (.int .i64 (0)), (.string (⟨#[]⟩)), (.slice none 0 0), (.slice none 0 0)] 26 := own_b3_8
 replace e2 := ft hR e2
 replace e1 := ft hR e1
 replace e20 := e20.q
 replace own_b2_4 := own_b2_4.ext hk
 replace own_b1_4 := own_b1_4.ext hk
 replace kw := kw.x hk
 clear hR hk hg hP hb3
 refine tail_store e3 e20 sz26 rfl own_b3_8 (lbr rfl) (all_cons rfl (all_cons rfl (all_cons rfl (all_cons rfl (all_cons rfl all_nil))))) (fun W9 hs own_b3_8 => ?_)
 have own_b3_8 : Own W9 b3_8 [(.int .u8 (1)), (.int .i64 (1)), (.string (⟨#[]⟩)), (.slice none 0 0), (.slice none 0 0)] 26 := own_b3_8
 replace own_b2_4 := own_store own_b2_4 hs ne_b2_4_b3_8
 replace own_b1_4 := own_store own_b1_4 hs ne_b1_4_b3_8
 replace kw := keeps_store kw hs lo_b3_8
 clear hs
 refine zn (hK7 _ _ ?_)
 refine zq fun K10 hK10 => ?_
 refine rg mixed y8 zz8 ?_
 refine .i (v := (.agg #[(.string (⟨#[115, 104, 97, 50, 53, 54]⟩)), (.string (⟨#[97, 98]⟩))])) (sp_build (vs := [(0, (.string (⟨#[115, 104, 97, 50, 53, 54]⟩))), (1, (.string (⟨#[97, 98]⟩)))]) Tryz.underlying43 z43 (pl43 Tryz.underlying43) ⟨rfl, Has.cst, rfl, Has.cst, trivial⟩ rfl) ?_
 refine .da (X := SF w [b3_8, b2_4, b1_4]) (e := hssD ([Hs.mk (⟨#[115, 104, 97, 50, 53, 54]⟩) (⟨#[97, 98]⟩)])) (sp_bsl (ds := [Hs.d (Hs.mk (⟨#[115, 104, 97, 50, 53, 54]⟩) (⟨#[97, 98]⟩))]) Tryz.underlying22 sz43 z43 (lbr rfl) (lbr rfl) ⟨rfl, ((hlc rfl).dat (rdHs_mk (lbr rfl) (lbr rfl) : Rd W9 (SF w [b3_8, b2_4, b1_4]) (Hs.d (Hs.mk (⟨#[115, 104, 97, 50, 53, 54]⟩) (⟨#[97, 98]⟩))) _) sub_all), trivial⟩ rfl (by intro e he; simp at he; rcases he with rfl <;> exact width_Hs _) (fr_sf kw (in_cons own_b3_8.lt (in_cons own_b2_4.lt (in_cons own_b1_4.lt in_nil))))) ?_
 refine .i (v := (.agg #[(.int .u8 (1)), (.int .i64 (1)), (.string (⟨#[]⟩)), (.slice none 0 0), (.slice none 0 0)])) (loA (hbs rfl e3) own_b3_8 trivial agg26 sz26 rfl rfl) ?_
 refine .da (X := SF w [b3_8, b2_4, b1_4]) (e := Rc.d awR) (sp_buildD (zd := [D.int .i64 0, hssD [], V.d V.zero]) (es := [(0, D.int .i64 (3)), (1, hssD ([Hs.mk (⟨#[115, 104, 97, 50, 53, 54]⟩) (⟨#[97, 98]⟩)])), (2, V.d (V.mk (1) (1) (⟨#[]⟩) ([]) ([])))]) Tryz.underlying46 z46 (pl46 Tryz.underlying46) ⟨rfl, Has.cst.int, ⟨rfl, (hlc rfl), ⟨rfl, ((hlc rfl).dat (rdV_mk (lbr rfl) (rd_nil _) (rd_nil _) : Rd W9 (SF w [b3_8, b2_4, b1_4]) (V.d (V.mk (1) (1) (⟨#[]⟩) ([]) ([]))) _) sub_all), trivial⟩⟩⟩ zRc (by first | rfl | simp [plOf, width, width_V, hssD]) (by simp [fits, width, strsD, valsD, hssD, width_V]) rfl) ?_
 refine .alloc z46 ?_
 refine .dn fun a11 g W11 y11 zz11 hk hg hV hR hP => ?_
 obtain ⟨⟨b4_11, e4, hb4, own_b4_11⟩, e24, -, -, -, -⟩ := hV
 have lo_b4_11 : w.heap.size ≤ b4_11 := Nat.le_trans kw.size (hg.lo _ _ hb4)
 have ne_b2_4_b4_11 : b2_4 ≠ b4_11 := Nat.ne_of_lt (Nat.lt_of_lt_of_le own_b2_4.lt (hg.lo _ _ hb4))
 have ne_b1_4_b4_11 : b1_4 ≠ b4_11 := Nat.ne_of_lt (Nat.lt_of_lt_of_le own_b1_4.lt (hg.lo _ _ hb4))
 have ne_b3_8_b4_11 : b3_8 ≠ b4_11 := Nat.ne_of_lt (Nat.lt_of_lt_of_le own_b3_8.lt (hg.lo _ _ hb4))
 have own_b4_11 : Own W11 b4_11 [(.int .i64 (0)), (.slice none 0 0), (.int .u8 (0)), (.int .i64 (0)), (.string (⟨#[]⟩)), (.slice none 0 0), (.slice none 0 0)] 46 := own_b4_11
 replace e2 := ft hR e2
 replace e1 := ft hR e1
 replace e3 := ft hR e3
 obtain ⟨v24_11, ev⟩ : ∃ v, sl a11 24 = v := ⟨_, rfl⟩
 rw [ev] at e24
 have D_v24_11 : Rd W11 (SF w [b4_11, b3_8, b2_4, b1_4]) (Rc.d awR) v24_11 := sf_end e24 hk [b4_11] (in_cons ⟨_, hb4⟩ in_nil)
 replace e24 := ev; clear ev
 obtain ⟨v24_11_1a, v24_11_1c, v24_11_5a, v24_11_5c, v24_11_6a, v24_11_6c, ev, hb_v24_11_4, D_v24_11_1, D_v24_11_5, D_v24_11_6⟩ := rdRc_out D_v24_11
 subst ev; clear D_v24_11
 replace own_b2_4 := own_b2_4.ext hk
 replace own_b1_4 := own_b1_4.ext hk
 replace own_b3_8 := own_b3_8.ext hk
 replace kw := kw.x hk
 clear hR hk hg hP hb4
 refine tail_store e4 e24 sz46 rfl own_b4_11 (lbr rfl) (all_cons rfl (all_cons rfl (all_cons rfl (all_cons rfl (all_cons rfl (all_cons rfl (all_cons rfl all_nil))))))) (fun W12 hs own_b4_11 => ?_)
 have own_b4_11 : Own W12 b4_11 [(.int .i64 (awR.ln)), (.slice v24_11_1a ((awR.hs).length) v24_11_1c), (.int .u8 (awR.cu.k)), (.int .i64 (awR.cu.n)), (.string (awR.cu.t)), (.slice v24_11_5a ((awR.cu.ns).length) v24_11_5c), (.slice v24_11_6a ((awR.cu.xs).length) v24_11_6c)] 46 := own_b4_11
 replace own_b2_4 := own_store own_b2_4 hs ne_b2_4_b4_11
 replace own_b1_4 := own_store own_b1_4 hs ne_b1_4_b4_11
 replace own_b3_8 := own_store own_b3_8 hs ne_b3_8_b4_11
 replace D_v24_11_1 := sf_store D_v24_11_1 hs (by simp)
 replace D_v24_11_5 := sf_store D_v24_11_5 hs (by simp)
 replace D_v24_11_6 := sf_store D_v24_11_6 hs (by simp)
 replace kw := keeps_store kw hs lo_b4_11
 clear hs
 refine zn (hK10 _ _ ?_)
 refine zq fun K13 hK13 => ?_
 refine rg mixed y11 zz11 ?_
 refine .da (X := SF w [b4_11, b3_8, b2_4, b1_4]) (e := strsD ([sCustom, sHashes, sLength])) (sp_bsl (ds := [D.str sCustom, D.str sHashes, D.str sLength]) Tryz.underlying23 sz9 z9 (lbr rfl) (lbr rfl) ⟨rfl, (Has.cst.str (lbr rfl)), ⟨rfl, (Has.cst.str (lbr rfl)), ⟨rfl, (Has.cst.str (lbr rfl)), trivial⟩⟩⟩ rfl (by simp [width]) (fr_sf kw (in_cons own_b4_11.lt (in_cons own_b3_8.lt (in_cons own_b2_4.lt (in_cons own_b1_4.lt in_nil)))))) ?_
 refine .i (v := (.agg #[(.int .u8 (1)), (.int .i64 (1)), (.string (⟨#[]⟩)), (.slice none 0 0), (.slice none 0 0)])) (loA (hbs rfl e3) own_b3_8 trivial agg26 sz26 rfl rfl) ?_
 refine .da (X := SF w [b4_11, b3_8, b2_4, b1_4]) (e := strsD ([⟨#[115, 104, 97, 50, 53, 54]⟩])) (sp_bsl (ds := [D.str (⟨#[115, 104, 97, 50, 53, 54]⟩)]) Tryz.underlying23 sz9 z9 (lbr rfl) (lbr rfl) ⟨rfl, (Has.cst.str (lbr rfl)), trivial⟩ rfl (by simp [width]) (fr_sf kw (in_cons own_b4_11.lt (in_cons own_b3_8.lt (in_cons own_b2_4.lt (in_cons own_b1_4.lt in_nil)))))) ?_
 refine .i (v := (.agg #[(.int .u8 (3)), (.int .i64 (0)), (.string (⟨#[97, 98]⟩)), (.slice none 0 0), (.slice none 0 0)])) (loA (hbs rfl e2) own_b2_4 trivial agg26 sz26 rfl rfl) ?_
 refine .da (X := SF w [b4_11, b3_8, b2_4, b1_4]) (e := valsD ([V.mk (3) (0) (⟨#[97, 98]⟩) ([]) ([])])) (sp_bsl (ds := [V.d (V.mk (3) (0) (⟨#[97, 98]⟩) ([]) ([]))]) Tryz.underlying24 sz26 z26 (lbr rfl) (lbr rfl) ⟨rfl, ((hlc rfl).dat (rdV_mk (lbr rfl) (rd_nil _) (rd_nil _) : Rd W12 (SF w [b4_11, b3_8, b2_4, b1_4]) (V.d (V.mk (3) (0) (⟨#[97, 98]⟩) ([]) ([]))) _) sub_all), trivial⟩ rfl (by intro e he; simp at he; rcases he with rfl <;> exact width_V _) (fr_sf kw (in_cons own_b4_11.lt (in_cons own_b3_8.lt (in_cons own_b2_4.lt (in_cons own_b1_4.lt in_nil)))))) ?_
 refine .da (X := SF w [b4_11, b3_8, b2_4, b1_4]) (e := V.d (V.mk 5 0 ⟨#[]⟩ ([⟨#[115, 104, 97, 50, 53, 54]⟩]) ([V.mk (3) (0) (⟨#[97, 98]⟩) ([]) ([])]))) (sp_call2 (φ1 := IsD (SF w [b4_11, b3_8, b2_4, b1_4]) (strsD ([⟨#[115, 104, 97, 50, 53, 54]⟩]))) (φ2 := IsD (SF w [b4_11, b3_8, b2_4, b1_4]) (valsD ([V.mk (3) (0) (⟨#[97, 98]⟩) ([]) ([])]))) ent21 (hlc rfl) (hlc rfl) (fun g u1 u2 W hk hgk h1 h2 => (obj21_ok ([⟨#[115, 104, 97, 50, 53, 54]⟩]) ([V.mk (3) (0) (⟨#[97, 98]⟩) ([]) ([])]) W _ _ _ h1 h2).mono (ret_arF kw (in_cons own_b4_11.lt (in_cons own_b3_8.lt (in_cons own_b2_4.lt (in_cons own_b1_4.lt in_nil)))) hk hgk))) ?_
 refine .i (v := (.agg #[(.int .u8 (2)), (.int .i64 (3)), (.string (⟨#[]⟩)), (.slice none 0 0), (.slice none 0 0)])) (loA (hbs rfl e1) own_b1_4 trivial agg26 sz26 rfl rfl) ?_
 refine .da (X := SF w [b4_11, b3_8, b2_4, b1_4]) (e := valsD ([V.mk (1) (1) (⟨#[]⟩) ([]) ([]), V.mk 5 0 ⟨#[]⟩ ([⟨#[115, 104, 97, 50, 53, 54]⟩]) ([V.mk (3) (0) (⟨#[97, 98]⟩) ([]) ([])]), V.mk (2) (3) (⟨#[]⟩) ([]) ([])])) (sp_bsl (ds := [V.d (V.mk (1) (1) (⟨#[]⟩) ([]) ([])), V.d (V.mk 5 0 ⟨#[]⟩ ([⟨#[115, 104, 97, 50, 53, 54]⟩]) ([V.mk (3) (0) (⟨#[97, 98]⟩) ([]) ([])])), V.d (V.mk (2) (3) (⟨#[]⟩) ([]) ([]))]) Tryz.underlying24 sz26 z26 (lbr rfl) (lbr rfl) ⟨rfl, ((hlc rfl).dat (rdV_mk (lbr rfl) (rd_nil _) (rd_nil _) : Rd W12 (SF w [b4_11, b3_8, b2_4, b1_4]) (V.d (V.mk (1) (1) (⟨#[]⟩) ([]) ([]))) _) sub_all), ⟨rfl, (hlc rfl), ⟨rfl, ((hlc rfl).dat (rdV_mk (lbr rfl) (rd_nil _) (rd_nil _) : Rd W12 (SF w [b4_11, b3_8, b2_4, b1_4]) (V.d (V.mk (2) (3) (⟨#[]⟩) ([]) ([]))) _) sub_all), trivial⟩⟩⟩ rfl (by intro e he; simp at he; rcases he with rfl | rfl | rfl <;> exact width_V _) (fr_sf kw (in_cons own_b4_11.lt (in_cons own_b3_8.lt (in_cons own_b2_4.lt (in_cons own_b1_4.lt in_nil)))))) ?_
 refine .da (X := SF w [b4_11, b3_8, b2_4, b1_4]) (e := V.d awV) (sp_call2 (φ1 := IsD (SF w [b4_11, b3_8, b2_4, b1_4]) (strsD ([sCustom, sHashes, sLength]))) (φ2 := IsD (SF w [b4_11, b3_8, b2_4, b1_4]) (valsD ([V.mk (1) (1) (⟨#[]⟩) ([]) ([]), V.mk 5 0 ⟨#[]⟩ ([⟨#[115, 104, 97, 50, 53, 54]⟩]) ([V.mk (3) (0) (⟨#[97, 98]⟩) ([]) ([])]), V.mk (2) (3) (⟨#[]⟩) ([]) ([])]))) ent21 (hlc rfl) (hlc rfl) (fun g u1 u2 W hk hgk h1 h2 => (obj21_ok ([sCustom, sHashes, sLength]) ([V.mk (1) (1) (⟨#[]⟩) ([]) ([]), V.mk 5 0 ⟨#[]⟩ ([⟨#[115, 104, 97, 50, 53, 54]⟩]) ([V.mk (3) (0) (⟨#[97, 98]⟩) ([]) ([])]), V.mk (2) (3) (⟨#[]⟩) ([]) ([])]) W _ _ _ h1 h2).mono (ret_arF kw (in_cons own_b4_11.lt (in_cons own_b3_8.lt (in_cons own_b2_4.lt (in_cons own_b1_4.lt in_nil)))) hk hgk))) ?_
 refine .alloc z26 ?_
 refine .dn fun a14 g W14 y14 zz14 hk hg hV hR hP => ?_
 obtain ⟨⟨b5_14, e5, hb5, own_b5_14⟩, e33, -, -, -, -, -, -, -, -, -⟩ := hV
 have lo_b5_14 : w.heap.size ≤ b5_14 := Nat.le_trans kw.size (hg.lo _ _ hb5)
 have ne_b2_4_b5_14 : b2_4 ≠ b5_14 := Nat.ne_of_lt (Nat.lt_of_lt_of_le own_b2_4.lt (hg.lo _ _ hb5))
 have ne_b1_4_b5_14 : b1_4 ≠ b5_14 := Nat.ne_of_lt (Nat.lt_of_lt_of_le own_b1_4.lt (hg.lo _ _ hb5))
 have ne_b3_8_b5_14 : b3_8 ≠ b5_14 := Nat.ne_of_lt (Nat.lt_of_lt_of_le own_b3_8.lt (hg.lo _ _ hb5))
 have ne_b4_11_b5_14 : b4_11 ≠ b5_14 := Nat.ne_of_lt (Nat.lt_of_lt_of_le own_b4_11.lt (hg.lo _ _ hb5))
 have own_b5_14 : Own W14 b5_14 [(.int .u8 (0)), (.int .i64 (0)), (.string (⟨#[]⟩)), (.slice none 0 0), (.slice none 0 0)] 26 := own_b5_14
 replace e1 := ft hR e1
 replace e4 := ft hR e4
 replace D_v24_11_1 := sf_more D_v24_11_1 hk [b5_14] (in_cons (hg.lo _ _ hb5) in_nil)
 replace D_v24_11_5 := sf_more D_v24_11_5 hk [b5_14] (in_cons (hg.lo _ _ hb5) in_nil)
 replace D_v24_11_6 := sf_more D_v24_11_6 hk [b5_14] (in_cons (hg.lo _ _ hb5) in_nil)
 obtain ⟨v33_14, ev⟩ : ∃ v, sl a14 33 = v := ⟨_, rfl⟩
 rw [ev] at e33
 have D_v33_14 : Rd W14 (SF w [b5_14, b4_11, b3_8, b2_4, b1_4]) (V.d awV) v33_14 := sf_end e33 hk [b5_14] (in_cons ⟨_, hb5⟩ in_nil)
 replace e33 := ev; clear ev
 obtain ⟨cn33_14a, cn33_14c, ci33_14a, ci33_14c, ev, ht_v33_14, D_cn33_14, D_ci33_14⟩ := rdV_out D_v33_14
 subst ev; clear D_v33_14
 replace own_b2_4 := own_b2_4.ext hk
 replace own_b1_4 := own_b1_4.ext hk
 replace own_b3_8 := own_b3_8.ext hk
 replace own_b4_11 := own_b4_11.ext hk
 replace kw := kw.x hk
 clear hR hk hg hP hb5
 refine tail_store e5 e33 sz26 rfl own_b5_14 (lbr rfl) (all_cons rfl (all_cons rfl (all_cons rfl (all_cons rfl (all_cons rfl all_nil))))) (fun W15 hs own_b5_14 => ?_)
 have own_b5_14 : Own W15 b5_14 [(.int .u8 (awV.k)), (.int .i64 (awV.n)), (.string (awV.t)), (.slice cn33_14a ((awV.ns).length) cn33_14c), (.slice ci33_14a ((awV.xs).length) ci33_14c)] 26 := own_b5_14
 replace own_b2_4 := own_store own_b2_4 hs ne_b2_4_b5_14
 replace own_b1_4 := own_store own_b1_4 hs ne_b1_4_b5_14
 replace own_b3_8 := own_store own_b3_8 hs ne_b3_8_b5_14
 replace own_b4_11 := own_store own_b4_11 hs ne_b4_11_b5_14
 replace D_v24_11_1 := sf_store D_v24_11_1 hs (by simp)
 replace D_v24_11_5 := sf_store D_v24_11_5 hs (by simp)
 replace D_v24_11_6 := sf_store D_v24_11_6 hs (by simp)
 replace D_cn33_14 := sf_store D_cn33_14 hs (by simp)
 replace D_ci33_14 := sf_store D_ci33_14 hs (by simp)
 replace kw := keeps_store kw hs lo_b5_14
 clear hs
 refine zn (hK13 _ _ ?_)
 refine zq fun K16 hK16 => ?_
 refine rg mixed y14 zz14 ?_
 refine .i (v := (.agg #[(.int .u8 (awV.k)), (.int .i64 (awV.n)), (.string (awV.t)), (.slice cn33_14a ((awV.ns).length) cn33_14c), (.slice ci33_14a ((awV.xs).length) ci33_14c)])) (loA (hbs rfl e5) own_b5_14 trivial agg26 sz26 rfl rfl) ?_
 refine .op (φ := IsT (IsD (Fr W15) (Rc.d (ofRV awV))) (Is (.int .i64 (ofRE awV)))) (st_t (st_d sub_all) (st_is _)) (sp_call1 (φ1 := IsD (SF w [b5_14, b4_11, b3_8, b2_4, b1_4]) (V.d awV)) ent22 ((hlc rfl).dat (rdV_in (x := awV) ht_v33_14 D_cn33_14 D_ci33_14 : Rd W15 (SF w [b5_14, b4_11, b3_8, b2_4, b1_4]) (V.d awV) _) sub_all) (fun g u1 W hk hgk h1 => (recordOf_ok awV (Nat.le_of_ble_eq_true (by kernel_rfl)) W _ _ (fun b o h => h.1.2.1) h1).mono (fun _ _ ⟨v, h1, h2, r1, h3, h4⟩ => ⟨v, h1, h2, r1, _, h3, fresh_d hk hgk h4, rfl⟩))) ?_
 refine .op (φ := _) (st_t (st_d sub_all) (st_is _)) (sp_move (hlc rfl)) ?_
 refine .da (X := Fr W15) (e := Rc.d (ofRV awV)) (sp_ext2 (hlc rfl) rfl) ?_
 refine .i (v := (.int .i64 (ofRE awV))) (sp_ext2' (hlc rfl) rfl) ?_
 refine .alloc z46 ?_
 refine .dn fun a17 g W17 y17 zz17 hk hg hV hR hP => ?_
 obtain ⟨⟨b6_17, e6, hb6, own_b6_17⟩, e38, e37, -, -, -, -⟩ := hV
 have lo_b6_17 : w.heap.size ≤ b6_17 := Nat.le_trans kw.size (hg.lo _ _ hb6)
 have ne_b2_4_b6_17 : b2_4 ≠ b6_17 := Nat.ne_of_lt (Nat.lt_of_lt_of_le own_b2_4.lt (hg.lo _ _ hb6))
 have ne_b1_4_b6_17 : b1_4 ≠ b6_17 := Nat.ne_of_lt (Nat.lt_of_lt_of_le own_b1_4.lt (hg.lo _ _ hb6))
 have ne_b3_8_b6_17 : b3_8 ≠ b6_17 := Nat.ne_of_lt (Nat.lt_of_lt_of_le own_b3_8.lt (hg.lo _ _ hb6))
 have ne_b4_11_b6_17 : b4_11 ≠ b6_17 := Nat.ne_of_lt (Nat.lt_of_lt_of_le own_b4_11.lt (hg.lo _ _ hb6))
 have ne_b5_14_b6_17 : b5_14 ≠ b6_17 := Nat.ne_of_lt (Nat.lt_of_lt_of_le own_b5_14.lt (hg.lo _ _ hb6))
 have own_b6_17 : Own W17 b6_17 [(.int .i64 (0)), (.slice none 0 0), (.int .u8 (0)), (.int .i64 (0)), (.string (⟨#[]⟩)), (.slice none 0 0), (.slice none 0 0)] 46 := own_b6_17
 replace e1 := ft hR e1
 replace e4 := ft hR e4
 replace e5 := ft hR e5
 replace D_v24_11_1 := sf_more D_v24_11_1 hk [b6_17] (in_cons (hg.lo _ _ hb6) in_nil)
 replace D_v24_11_5 := sf_more D_v24_11_5 hk [b6_17] (in_cons (hg.lo _ _ hb6) in_nil)
 replace D_v24_11_6 := sf_more D_v24_11_6 hk [b6_17] (in_cons (hg.lo _ _ hb6) in_nil)
 replace D_cn33_14 := sf_more D_cn33_14 hk [b6_17] (in_cons (hg.lo _ _ hb6) in_nil)
 replace D_ci33_14 := sf_more D_ci33_14 hk [b6_17] (in_cons (hg.lo _ _ hb6) in_nil)
 obtain ⟨v37_17, ev⟩ : ∃ v, sl a17 37 = v := ⟨_, rfl⟩
 rw [ev] at e37
 have D_v37_17 : Rd W17 (SF w [b6_17, b5_14, b4_11, b3_8, b2_4, b1_4]) (Rc.d (ofRV awV)) v37_17 := fr_end (M := [b5_14, b4_11, b3_8, b2_4, b1_4]) e37 kw [b6_17] (in_cons ⟨_, hb6⟩ in_nil) (in_cons own_b5_14.lt (in_cons own_b4_11.lt (in_cons own_b3_8.lt (in_cons own_b2_4.lt (in_cons own_b1_4.lt in_nil)))))
 replace e37 := ev; clear ev
 obtain ⟨v37_17_1a, v37_17_1c, v37_17_5a, v37_17_5c, v37_17_6a, v37_17_6c, ev, hb_v37_17_4, D_v37_17_1, D_v37_17_5, D_v37_17_6⟩ := rdRc_out D_v37_17
 subst ev; clear D_v37_17
 replace e38 := e38.q
 replace own_b2_4 := own_b2_4.ext hk
 replace own_b1_4 := own_b1_4.ext hk
 replace own_b3_8 := own_b3_8.ext hk
 replace own_b4_11 := own_b4_11.ext hk
 replace own_b5_14 := own_b5_14.ext hk
 replace kw := kw.x hk
 clear hR hk hg hP hb6
 refine tail_store e6 e37 sz46 rfl own_b6_17 (lbr rfl) (all_cons rfl (all_cons rfl (all_cons rfl (all_cons rfl (all_cons rfl (all_cons rfl (all_cons rfl all_nil))))))) (fun W18 hs own_b6_17 => ?_)
 have own_b6_17 : Own W18 b6_17 [(.int .i64 ((ofRV awV).ln)), (.slice v37_17_1a (((ofRV awV).hs).length) v37_17_1c), (.int .u8 ((ofRV awV).cu.k)), (.int .i64 ((ofRV awV).cu.n)), (.string ((ofRV awV).cu.t)), (.slice v37_17_5a (((ofRV awV).cu.ns).length) v37_17_5c), (.slice v37_17_6a (((ofRV awV).cu.xs).length) v37_17_6c)] 46 := own_b6_17
 replace own_b2_4 := own_store own_b2_4 hs ne_b2_4_b6_17
 replace own_b1_4 := own_store own_b1_4 hs ne_b1_4_b6_17
 replace own_b3_8 := own_store own_b3_8 hs ne_b3_8_b6_17
 replace own_b4_11 := own_store own_b4_11 hs ne_b4_11_b6_17
 replace own_b5_14 := own_store own_b5_14 hs ne_b5_14_b6_17
 replace D_v24_11_1 := sf_store D_v24_11_1 hs (by simp)
 replace D_v24_11_5 := sf_store D_v24_11_5 hs (by simp)
 replace D_v24_11_6 := sf_store D_v24_11_6 hs (by simp)
 replace D_cn33_14 := sf_store D_cn33_14 hs (by simp)
 replace D_ci33_14 := sf_store D_ci33_14 hs (by simp)
 replace D_v37_17_1 := sf_store D_v37_17_1 hs (by simp)
 replace D_v37_17_5 := sf_store D_v37_17_5 hs (by simp)
 replace D_v37_17_6 := sf_store D_v37_17_6 hs (by simp)
 replace kw := keeps_store kw hs lo_b6_17
 clear hs
 refine tail_assign (v := (.int .i64 (ofRE awV))) e38 (by rw [y17]; exact Nat.le_of_ble_eq_true rfl) (fun a19 y19 zz19 e7 hr => ?_)
 replace y19 := y19.trans y17; replace zz19 := zz19.trans zz17
 replace e1 := (hr 1 (by decide)).trans e1
 replace e4 := (hr 4 (by decide)).trans e4
 replace e5 := (hr 5 (by decide)).trans e5
 replace e6 := (hr 6 (by decide)).trans e6
 replace e37 := (hr 37 (by decide)).trans e37
 replace e38 := (hr 38 (by decide)).trans e38
 clear hr
 refine zn (hK16 _ _ ?_)
 refine zq fun K20 hK20 => ?_
 refine rg mixed y19 zz19 ?_
 refine .i (v := (.agg #[(.int .i64 ((ofRV awV).ln)), (.slice v37_17_1a (((ofRV awV).hs).length) v37_17_1c), (.int .u8 ((ofRV awV).cu.k)), (.int .i64 ((ofRV awV).cu.n)), (.string ((ofRV awV).cu.t)), (.slice v37_17_5a (((ofRV awV).cu.ns).length) v37_17_5c), (.slice v37_17_6a (((ofRV awV).cu.xs).length) v37_17_6c)])) (loA (hbs rfl e6) own_b6_17 trivial agg46 sz46 rfl rfl) ?_
 refine .op (φ := IsT (IsD (Fr W18) (V.d (recV (ofRV awV)))) (Is (.int .i64 (recE (ofRV awV))))) (st_t (st_d sub_all) (st_is _)) (sp_call1 (φ1 := IsD (SF w [b6_17, b5_14, b4_11, b3_8, b2_4, b1_4]) (Rc.d ((ofRV awV)))) ent23 ((hlc rfl).dat (rdRc_mk D_v37_17_1 (rdV_in (x := (ofRV awV).cu) hb_v37_17_4 D_v37_17_5 D_v37_17_6 : Rd W18 (SF w [b6_17, b5_14, b4_11, b3_8, b2_4, b1_4]) (V.d ((ofRV awV).cu)) _) : Rd W18 (SF w [b6_17, b5_14, b4_11, b3_8, b2_4, b1_4]) (Rc.d ((ofRV awV))) _) sub_all) (fun g u1 W hk hgk h1 => (ValueR_ok ((ofRV awV)) (Nat.le_of_ble_eq_true (by kernel_rfl)) W _ _ (fun b o h => h.1.2.1) h1).mono (fun _ _ ⟨v, h1, h2, r1, h3, h4⟩ => ⟨v, h1, h2, r1, _, h3, fresh_d hk hgk h4, rfl⟩))) ?_
 refine .op (φ := _) (st_t (st_d sub_all) (st_is _)) (sp_move (hlc rfl)) ?_
 refine .da (X := Fr W18) (e := V.d (recV (ofRV awV))) (sp_ext2 (hlc rfl) rfl) ?_
 refine .i (v := (.int .i64 (recE (ofRV awV)))) (sp_ext2' (hlc rfl) rfl) ?_
 refine .alloc z26 ?_
 refine .dn fun a21 g W21 y21 zz21 hk hg hV hR hP => ?_
 obtain ⟨⟨b8_21, e8, hb8, own_b8_21⟩, e43, e42, -, -, -, -⟩ := hV
 have lo_b8_21 : w.heap.size ≤ b8_21 := Nat.le_trans kw.size (hg.lo _ _ hb8)
 have ne_b2_4_b8_21 : b2_4 ≠ b8_21 := Nat.ne_of_lt (Nat.lt_of_lt_of_le own_b2_4.lt (hg.lo _ _ hb8))
 have ne_b1_4_b8_21 : b1_4 ≠ b8_21 := Nat.ne_of_lt (Nat.lt_of_lt_of_le own_b1_4.lt (hg.lo _ _ hb8))
 have ne_b3_8_b8_21 : b3_8 ≠ b8_21 := Nat.ne_of_lt (Nat.lt_of_lt_of_le own_b3_8.lt (hg.lo _ _ hb8))
 have ne_b4_11_b8_21 : b4_11 ≠ b8_21 := Nat.ne_of_lt (Nat.lt_of_lt_of_le own_b4_11.lt (hg.lo _ _ hb8))
 have ne_b5_14_b8_21 : b5_14 ≠ b8_21 := Nat.ne_of_lt (Nat.lt_of_lt_of_le own_b5_14.lt (hg.lo _ _ hb8))
 have ne_b6_17_b8_21 : b6_17 ≠ b8_21 := Nat.ne_of_lt (Nat.lt_of_lt_of_le own_b6_17.lt (hg.lo _ _ hb8))
 have own_b8_21 : Own W21 b8_21 [(.int .u8 (0)), (.int .i64 (0)), (.string (⟨#[]⟩)), (.slice none 0 0), (.slice none 0 0)] 26 := own_b8_21
 replace e1 := ft hR e1
 replace e4 := ft hR e4
 replace e5 := ft hR e5
 replace e6 := ft hR e6
 replace e7 := ft hR e7
 replace D_v24_11_1 := sf_more D_v24_11_1 hk [b8_21] (in_cons (hg.lo _ _ hb8) in_nil)
 replace D_v24_11_5 := sf_more D_v24_11_5 hk [b8_21] (in_cons (hg.lo _ _ hb8) in_nil)
 replace D_v24_11_6 := sf_more D_v24_11_6 hk [b8_21] (in_cons (hg.lo _ _ hb8) in_nil)
 replace D_cn33_14 := sf_more D_cn33_14 hk [b8_21] (in_cons (hg.lo _ _ hb8) in_nil)
 replace D_ci33_14 := sf_more D_ci33_14 hk [b8_21] (in_cons (hg.lo _ _ hb8) in_nil)
 replace D_v37_17_1 := sf_more D_v37_17_1 hk [b8_21] (in_cons (hg.lo _ _ hb8) in_nil)
 replace D_v37_17_5 := sf_more D_v37_17_5 hk [b8_21] (in_cons (hg.lo _ _ hb8) in_nil)
 replace D_v37_17_6 := sf_more D_v37_17_6 hk [b8_21] (in_cons (hg.lo _ _ hb8) in_nil)
 obtain ⟨v42_21, ev⟩ : ∃ v, sl a21 42 = v := ⟨_, rfl⟩
 rw [ev] at e42
 have D_v42_21 : Rd W21 (SF w [b8_21, b6_17, b5_14, b4_11, b3_8, b2_4, b1_4]) (V.d (recV (ofRV awV))) v42_21 := fr_end (M := [b6_17, b5_14, b4_11, b3_8, b2_4, b1_4]) e42 kw [b8_21] (in_cons ⟨_, hb8⟩ in_nil) (in_cons own_b6_17.lt (in_cons own_b5_14.lt (in_cons own_b4_11.lt (in_cons own_b3_8.lt (in_cons own_b2_4.lt (in_cons own_b1_4.lt in_nil))))))
 replace e42 := ev; clear ev
 obtain ⟨cn42_21a, cn42_21c, ci42_21a, ci42_21c, ev, ht_v42_21, D_cn42_21, D_ci42_21⟩ := rdV_out D_v42_21
 subst ev; clear D_v42_21
 replace e43 := e43.q
 replace own_b2_4 := own_b2_4.ext hk
 replace own_b1_4 := own_b1_4.ext hk
 replace own_b3_8 := own_b3_8.ext hk
 replace own_b4_11 := own_b4_11.ext hk
 replace own_b5_14 := own_b5_14.ext hk
 replace own_b6_17 := own_b6_17.ext hk
 replace kw := kw.x hk
 clear hR hk hg hP hb8
 refine tail_store e8 e42 sz26 rfl own_b8_21 (lbr rfl) (all_cons rfl (all_cons rfl (all_cons rfl (all_cons rfl (all_cons rfl all_nil))))) (fun W22 hs own_b8_21 => ?_)
 have own_b8_21 : Own W22 b8_21 [(.int .u8 ((recV (ofRV awV)).k)), (.int .i64 ((recV (ofRV awV)).n)), (.string ((recV (ofRV awV)).t)), (.slice cn42_21a (((recV (ofRV awV)).ns).length) cn42_21c), (.slice ci42_21a (((recV (ofRV awV)).xs).length) ci42_21c)] 26 := own_b8_21
 replace own_b2_4 := own_store own_b2_4 hs ne_b2_4_b8_21
 replace own_b1_4 := own_store own_b1_4 hs ne_b1_4_b8_21
 replace own_b3_8 := own_store own_b3_8 hs ne_b3_8_b8_21
 replace own_b4_11 := own_store own_b4_11 hs ne_b4_11_b8_21
 replace own_b5_14 := own_store own_b5_14 hs ne_b5_14_b8_21
 replace own_b6_17 := own_store own_b6_17 hs ne_b6_17_b8_21
 replace D_v24_11_1 := sf_store D_v24_11_1 hs (by simp)
 replace D_v24_11_5 := sf_store D_v24_11_5 hs (by simp)
 replace D_v24_11_6 := sf_store D_v24_11_6 hs (by simp)
 replace D_cn33_14 := sf_store D_cn33_14 hs (by simp)
 replace D_ci33_14 := sf_store D_ci33_14 hs (by simp)
 replace D_v37_17_1 := sf_store D_v37_17_1 hs (by simp)
 replace D_v37_17_5 := sf_store D_v37_17_5 hs (by simp)
 replace D_v37_17_6 := sf_store D_v37_17_6 hs (by simp)
 replace D_cn42_21 := sf_store D_cn42_21 hs (by simp)
 replace D_ci42_21 := sf_store D_ci42_21 hs (by simp)
 replace kw := keeps_store kw hs lo_b8_21
 clear hs
 refine tail_assign (v := (.int .i64 (recE (ofRV awV)))) e43 (by rw [y21]; exact Nat.le_of_ble_eq_true rfl) (fun a23 y23 zz23 e9 hr => ?_)
 replace y23 := y23.trans y21; replace zz23 := zz23.trans zz21
 replace e1 := (hr 1 (by decide)).trans e1
 replace e4 := (hr 4 (by decide)).trans e4
 replace e5 := (hr 5 (by decide)).trans e5
 replace e6 := (hr 6 (by decide)).trans e6
 replace e7 := (hr 7 (by decide)).trans e7
 replace e8 := (hr 8 (by decide)).trans e8
 replace e42 := (hr 42 (by decide)).trans e42
 replace e43 := (hr 43 (by decide)).trans e43
 clear hr
 refine zn (hK20 _ _ ?_)
 refine zq fun K24 hK24 => ?_
 refine rg mixed y23 zz23 ?_
 refine .da (X := SF w [b8_21, b6_17, b5_14, b4_11, b3_8, b2_4, b1_4]) (e := V.d (V.mk 5 0 ⟨#[]⟩ ([]) ([]))) (sp_call2 (φ1 := IsD (SF w [b8_21, b6_17, b5_14, b4_11, b3_8, b2_4, b1_4]) (strsD ([]))) (φ2 := IsD (SF w [b8_21, b6_17, b5_14, b4_11, b3_8, b2_4, b1_4]) (valsD ([]))) ent21 (Has.cst.dat (rd_nil _ : Rd W22 (SF w [b8_21, b6_17, b5_14, b4_11, b3_8, b2_4, b1_4]) (strsD ([])) _) sub_all) (Has.cst.dat (rd_nil _ : Rd W22 (SF w [b8_21, b6_17, b5_14, b4_11, b3_8, b2_4, b1_4]) (valsD ([])) _) sub_all) (fun g u1 u2 W hk hgk h1 h2 => (obj21_ok ([]) ([]) W _ _ _ h1 h2).mono (ret_arF kw (in_cons own_b8_21.lt (in_cons own_b6_17.lt (in_cons own_b5_14.lt (in_cons own_b4_11.lt (in_cons own_b3_8.lt (in_cons own_b2_4.lt (in_cons own_b1_4.lt in_nil))))))) hk hgk))) ?_
 refine .op (φ := IsT (IsD (Fr W22) (hssD (hsOV (V.mk 5 0 ⟨#[]⟩ ([]) ([]))))) (Is (.int .i64 (hsOE (V.mk 5 0 ⟨#[]⟩ ([]) ([])))))) (st_t (st_d sub_all) (st_is _)) (sp_call1 (φ1 := IsD (SF w [b8_21, b6_17, b5_14, b4_11, b3_8, b2_4, b1_4]) (V.d (V.mk 5 0 ⟨#[]⟩ ([]) ([])))) ent9 (hlc rfl) (fun g u1 W hk hgk h1 => (HashesOf_ok (V.mk 5 0 ⟨#[]⟩ ([]) ([])) (Nat.le_of_ble_eq_true (by kernel_rfl)) W _ _ h1).mono (fun _ _ ⟨v, h1, h2, r1, h3, h4⟩ => ⟨v, h1, h2, r1, _, h3, fresh_d hk hgk h4, rfl⟩))) ?_
 refine .op (φ := IsT (IsD (Fr W22) (hssD (hsOV (V.mk 5 0 ⟨#[]⟩ ([]) ([]))))) (Is (.int .i64 (hsOE (V.mk 5 0 ⟨#[]⟩ ([]) ([])))))) (st_t (st_d sub_all) (st_is _)) (sp_move (hlc rfl)) ?_
 refine .da (X := Fr W22) (e := hssD (hsOV (V.mk 5 0 ⟨#[]⟩ ([]) ([])))) (sp_ext2 (hlc rfl) rfl) ?_
 refine .i (v := (.int .i64 (hsOE (V.mk 5 0 ⟨#[]⟩ ([]) ([]))))) (sp_ext2' (hlc rfl) rfl) ?_
 refine .da (X := Fr W22) (e := hssD (hsOV (V.mk 5 0 ⟨#[]⟩ ([]) ([])))) (sp_assign (hlc rfl)) ?_
 refine .al rfl ?_
 refine .dn fun a25 g W25 y25 zz25 hk hg hV hR hP => ?_
 obtain ⟨e11, -, -, -, -, -, -, -⟩ := hV
 replace e1 := ft hR e1
 replace e4 := ft hR e4
 replace e5 := ft hR e5
 replace e6 := ft hR e6
 replace e7 := ft hR e7
 replace e8 := ft hR e8
 replace e9 := ft hR e9
 replace D_v24_11_1 := D_v24_11_1.ext hk
 replace D_v24_11_5 := D_v24_11_5.ext hk
 replace D_v24_11_6 := D_v24_11_6.ext hk
 replace D_cn33_14 := D_cn33_14.ext hk
 replace D_ci33_14 := D_ci33_14.ext hk
 replace D_v37_17_1 := D_v37_17_1.ext hk
 replace D_v37_17_5 := D_v37_17_5.ext hk
 replace D_v37_17_6 := D_v37_17_6.ext hk
 replace D_cn42_21 := D_cn42_21.ext hk
 replace D_ci42_21 := D_ci42_21.ext hk
 replace e11 := e11.q
 replace own_b2_4 := own_b2_4.ext hk
 replace own_b1_4 := own_b1_4.ext hk
 replace own_b3_8 := own_b3_8.ext hk
 replace own_b4_11 := own_b4_11.ext hk
 replace own_b5_14 := own_b5_14.ext hk
 replace own_b6_17 := own_b6_17.ext hk
 replace own_b8_21 := own_b8_21.ext hk
 replace kw := kw.x hk
 clear hR hk hg hP
 refine zn (hK24 _ _ ?_)
 refine zq fun K26 hK26 => ?_
 refine rg mixed y25 zz25 ?_
 refine .da (X := SF w [b8_21, b6_17, b5_14, b4_11, b3_8, b2_4, b1_4]) (e := strsD ([⟨#[97]⟩])) (sp_bsl (ds := [D.str (⟨#[97]⟩)]) Tryz.underlying23 sz9 z9 (lbr rfl) (lbr rfl) ⟨rfl, (Has.cst.str (lbr rfl)), trivial⟩ rfl (by simp [width]) (fr_sf kw (in_cons own_b8_21.lt (in_cons own_b6_17.lt (in_cons own_b5_14.lt (in_cons own_b4_11.lt (in_cons own_b3_8.lt (in_cons own_b2_4.lt (in_cons own_b1_4.lt in_nil))))))))) ?_
 refine .i (v := (.agg #[(.int .u8 (2)), (.int .i64 (3)), (.string (⟨#[]⟩)), (.slice none 0 0), (.slice none 0 0)])) (loA (hbs rfl e1) own_b1_4 trivial agg26 sz26 rfl rfl) ?_
 refine .da (X := SF w [b8_21, b6_17, b5_14, b4_11, b3_8, b2_4, b1_4]) (e := valsD ([V.mk (2) (3) (⟨#[]⟩) ([]) ([])])) (sp_bsl (ds := [V.d (V.mk (2) (3) (⟨#[]⟩) ([]) ([]))]) Tryz.underlying24 sz26 z26 (lbr rfl) (lbr rfl) ⟨rfl, ((hlc rfl).dat (rdV_mk (lbr rfl) (rd_nil _) (rd_nil _) : Rd W25 (SF w [b8_21, b6_17, b5_14, b4_11, b3_8, b2_4, b1_4]) (V.d (V.mk (2) (3) (⟨#[]⟩) ([]) ([]))) _) sub_all), trivial⟩ rfl (by intro e he; simp at he; rcases he with rfl <;> exact width_V _) (fr_sf kw (in_cons own_b8_21.lt (in_cons own_b6_17.lt (in_cons own_b5_14.lt (in_cons own_b4_11.lt (in_cons own_b3_8.lt (in_cons own_b2_4.lt (in_cons own_b1_4.lt in_nil))))))))) ?_
 refine .da (X := SF w [b8_21, b6_17, b5_14, b4_11, b3_8, b2_4, b1_4]) (e := V.d (V.mk 5 0 ⟨#[]⟩ ([⟨#[97]⟩]) ([V.mk (2) (3) (⟨#[]⟩) ([]) ([])]))) (sp_call2 (φ1 := IsD (SF w [b8_21, b6_17, b5_14, b4_11, b3_8, b2_4, b1_4]) (strsD ([⟨#[97]⟩]))) (φ2 := IsD (SF w [b8_21, b6_17, b5_14, b4_11, b3_8, b2_4, b1_4]) (valsD ([V.mk (2) (3) (⟨#[]⟩) ([]) ([])]))) ent21 (hlc rfl) (hlc rfl) (fun g u1 u2 W hk hgk h1 h2 => (obj21_ok ([⟨#[97]⟩]) ([V.mk (2) (3) (⟨#[]⟩) ([]) ([])]) W _ _ _ h1 h2).mono (ret_arF kw (in_cons own_b8_21.lt (in_cons own_b6_17.lt (in_cons own_b5_14.lt (in_cons own_b4_11.lt (in_cons own_b3_8.lt (in_cons own_b2_4.lt (in_cons own_b1_4.lt in_nil))))))) hk hgk))) ?_
 refine .op (φ := IsT (IsD (Fr W25) (hssD (hsOV (V.mk 5 0 ⟨#[]⟩ ([⟨#[97]⟩]) ([V.mk (2) (3) (⟨#[]⟩) ([]) ([])]))))) (Is (.int .i64 (hsOE (V.mk 5 0 ⟨#[]⟩ ([⟨#[97]⟩]) ([V.mk (2) (3) (⟨#[]⟩) ([]) ([])])))))) (st_t (st_d sub_all) (st_is _)) (sp_call1 (φ1 := IsD (SF w [b8_21, b6_17, b5_14, b4_11, b3_8, b2_4, b1_4]) (V.d (V.mk 5 0 ⟨#[]⟩ ([⟨#[97]⟩]) ([V.mk (2) (3) (⟨#[]⟩) ([]) ([])])))) ent9 (hlc rfl) (fun g u1 W hk hgk h1 => (HashesOf_ok (V.mk 5 0 ⟨#[]⟩ ([⟨#[97]⟩]) ([V.mk (2) (3) (⟨#[]⟩) ([]) ([])])) (Nat.le_of_ble_eq_true (by kernel_rfl)) W _ _ h1).mono (fun _ _ ⟨v, h1, h2, r1, h3, h4⟩ => ⟨v, h1, h2, r1, _, h3, fresh_d hk hgk h4, rfl⟩))) ?_
 refine .op (φ := IsT (IsD (Fr W25) (hssD (hsOV (V.mk 5 0 ⟨#[]⟩ ([⟨#[97]⟩]) ([V.mk (2) (3) (⟨#[]⟩) ([]) ([])]))))) (Is (.int .i64 (hsOE (V.mk 5 0 ⟨#[]⟩ ([⟨#[97]⟩]) ([V.mk (2) (3) (⟨#[]⟩) ([]) ([])])))))) (st_t (st_d sub_all) (st_is _)) (sp_move (hlc rfl)) ?_
 refine .da (X := Fr W25) (e := hssD (hsOV (V.mk 5 0 ⟨#[]⟩ ([⟨#[97]⟩]) ([V.mk (2) (3) (⟨#[]⟩) ([]) ([])])))) (sp_ext2 (hlc rfl) rfl) ?_
 refine .i (v := (.int .i64 (hsOE (V.mk 5 0 ⟨#[]⟩ ([⟨#[97]⟩]) ([V.mk (2) (3) (⟨#[]⟩) ([]) ([])]))))) (sp_ext2' (hlc rfl) rfl) ?_
 refine .da (X := Fr W25) (e := hssD (hsOV (V.mk 5 0 ⟨#[]⟩ ([⟨#[97]⟩]) ([V.mk (2) (3) (⟨#[]⟩) ([]) ([])])))) (sp_assign (hlc rfl)) ?_
 refine .al rfl ?_
 refine .dn fun a27 g W27 y27 zz27 hk hg hV hR hP => ?_
 obtain ⟨e13, -, -, -, -, -, -, -, -, -, -⟩ := hV
 replace e4 := ft hR e4
 replace e5 := ft hR e5
 replace e6 := ft hR e6
 replace e7 := ft hR e7
 replace e8 := ft hR e8
 replace e9 := ft hR e9
 replace e11 := ft hR e11
 replace D_v24_11_1 := D_v24_11_1.ext hk
 replace D_v24_11_5 := D_v24_11_5.ext hk
 replace D_v24_11_6 := D_v24_11_6.ext hk
 replace D_cn33_14 := D_cn33_14.ext hk
 replace D_ci33_14 := D_ci33_14.ext hk
 replace D_v37_17_1 := D_v37_17_1.ext hk
 replace D_v37_17_5 := D_v37_17_5.ext hk
 replace D_v37_17_6 := D_v37_17_6.ext hk
 replace D_cn42_21 := D_cn42_21.ext hk
 replace D_ci42_21 := D_ci42_21.ext hk
 replace e13 := e13.q
 replace own_b2_4 := own_b2_4.ext hk
 replace own_b1_4 := own_b1_4.ext hk
 replace own_b3_8 := own_b3_8.ext hk
 replace own_b4_11 := own_b4_11.ext hk
 replace own_b5_14 := own_b5_14.ext hk
 replace own_b6_17 := own_b6_17.ext hk
 replace own_b8_21 := own_b8_21.ext hk
 replace kw := kw.x hk
 clear hR hk hg hP
 refine zn (hK26 _ _ ?_)
 refine zq fun K28 hK28 => ?_
 refine rg mixed y27 zz27 ?_
 refine .da (X := SF w [b8_21, b6_17, b5_14, b4_11, b3_8, b2_4, b1_4]) (e := strsD ([⟨#[97]⟩])) (sp_bsl (ds := [D.str (⟨#[97]⟩)]) Tryz.underlying23 sz9 z9 (lbr rfl) (lbr rfl) ⟨rfl, (Has.cst.str (lbr rfl)), trivial⟩ rfl (by simp [width]) (fr_sf kw (in_cons own_b8_21.lt (in_cons own_b6_17.lt (in_cons own_b5_14.lt (in_cons own_b4_11.lt (in_cons own_b3_8.lt (in_cons own_b2_4.lt (in_cons own_b1_4.lt in_nil))))))))) ?_
 refine .i (v := (.agg #[(.int .u8 (3)), (.int .i64 (0)), (.string (⟨#[97, 98, 99]⟩)), (.slice none 0 0), (.slice none 0 0)])) (sp_build (vs := [(0, (.int .u8 (3))), (2, (.string (⟨#[97, 98, 99]⟩)))]) Tryz.underlying26 z26 (pl26 Tryz.underlying26) ⟨rfl, Has.cst, rfl, Has.cst, trivial⟩ rfl) ?_
 refine .da (X := SF w [b8_21, b6_17, b5_14, b4_11, b3_8, b2_4, b1_4]) (e := valsD ([V.mk (3) (0) (⟨#[97, 98, 99]⟩) ([]) ([])])) (sp_bsl (ds := [V.d (V.mk (3) (0) (⟨#[97, 98, 99]⟩) ([]) ([]))]) Tryz.underlying24 sz26 z26 (lbr rfl) (lbr rfl) ⟨rfl, ((hlc rfl).dat (rdV_mk (lbr rfl) (rd_nil _) (rd_nil _) : Rd W27 (SF w [b8_21, b6_17, b5_14, b4_11, b3_8, b2_4, b1_4]) (V.d (V.mk (3) (0) (⟨#[97, 98, 99]⟩) ([]) ([]))) _) sub_all), trivial⟩ rfl (by intro e he; simp at he; rcases he with rfl <;> exact width_V _) (fr_sf kw (in_cons own_b8_21.lt (in_cons own_b6_17.lt (in_cons own_b5_14.lt (in_cons own_b4_11.lt (in_cons own_b3_8.lt (in_cons own_b2_4.lt (in_cons own_b1_4.lt in_nil))))))))) ?_
 refine .da (X := SF w [b8_21, b6_17, b5_14, b4_11, b3_8, b2_4, b1_4]) (e := V.d (V.mk 5 0 ⟨#[]⟩ ([⟨#[97]⟩]) ([V.mk (3) (0) (⟨#[97, 98, 99]⟩) ([]) ([])]))) (sp_call2 (φ1 := IsD (SF w [b8_21, b6_17, b5_14, b4_11, b3_8, b2_4, b1_4]) (strsD ([⟨#[97]⟩]))) (φ2 := IsD (SF w [b8_21, b6_17, b5_14, b4_11, b3_8, b2_4, b1_4]) (valsD ([V.mk (3) (0) (⟨#[97, 98, 99]⟩) ([]) ([])]))) ent21 (hlc rfl) (hlc rfl) (fun g u1 u2 W hk hgk h1 h2 => (obj21_ok ([⟨#[97]⟩]) ([V.mk (3) (0) (⟨#[97, 98, 99]⟩) ([]) ([])]) W _ _ _ h1 h2).mono (ret_arF kw (in_cons own_b8_21.lt (in_cons own_b6_17.lt (in_cons own_b5_14.lt (in_cons own_b4_11.lt (in_cons own_b3_8.lt (in_cons own_b2_4.lt (in_cons own_b1_4.lt in_nil))))))) hk hgk))) ?_
 refine .op (φ := IsT (IsD (Fr W27) (hssD (hsOV (V.mk 5 0 ⟨#[]⟩ ([⟨#[97]⟩]) ([V.mk (3) (0) (⟨#[97, 98, 99]⟩) ([]) ([])]))))) (Is (.int .i64 (hsOE (V.mk 5 0 ⟨#[]⟩ ([⟨#[97]⟩]) ([V.mk (3) (0) (⟨#[97, 98, 99]⟩) ([]) ([])])))))) (st_t (st_d sub_all) (st_is _)) (sp_call1 (φ1 := IsD (SF w [b8_21, b6_17, b5_14, b4_11, b3_8, b2_4, b1_4]) (V.d (V.mk 5 0 ⟨#[]⟩ ([⟨#[97]⟩]) ([V.mk (3) (0) (⟨#[97, 98, 99]⟩) ([]) ([])])))) ent9 (hlc rfl) (fun g u1 W hk hgk h1 => (HashesOf_ok (V.mk 5 0 ⟨#[]⟩ ([⟨#[97]⟩]) ([V.mk (3) (0) (⟨#[97, 98, 99]⟩) ([]) ([])])) (Nat.le_of_ble_eq_true (by kernel_rfl)) W _ _ h1).mono (fun _ _ ⟨v, h1, h2, r1, h3, h4⟩ => ⟨v, h1, h2, r1, _, h3, fresh_d hk hgk h4, rfl⟩))) ?_
 refine .op (φ := IsT (IsD (Fr W27) (hssD (hsOV (V.mk 5 0 ⟨#[]⟩ ([⟨#[97]⟩]) ([V.mk (3) (0) (⟨#[97, 98, 99]⟩) ([]) ([])]))))) (Is (.int .i64 (hsOE (V.mk 5 0 ⟨#[]⟩ ([⟨#[97]⟩]) ([V.mk (3) (0) (⟨#[97, 98, 99]⟩) ([]) ([])])))))) (st_t (st_d sub_all) (st_is _)) (sp_move (hlc rfl)) ?_
 refine .da (X := Fr W27) (e := hssD (hsOV (V.mk 5 0 ⟨#[]⟩ ([⟨#[97]⟩]) ([V.mk (3) (0) (⟨#[97, 98, 99]⟩) ([]) ([])])))) (sp_ext2 (hlc rfl) rfl) ?_
 refine .i (v := (.int .i64 (hsOE (V.mk 5 0 ⟨#[]⟩ ([⟨#[97]⟩]) ([V.mk (3) (0) (⟨#[97, 98, 99]⟩) ([]) ([])]))))) (sp_ext2' (hlc rfl) rfl) ?_
 refine .da (X := Fr W27) (e := hssD (hsOV (V.mk 5 0 ⟨#[]⟩ ([⟨#[97]⟩]) ([V.mk (3) (0) (⟨#[97, 98, 99]⟩) ([]) ([])])))) (sp_assign (hlc rfl)) ?_
 refine .al rfl ?_
 refine .dn fun a29 g W29 y29 zz29 hk hg hV hR hP => ?_
 obtain ⟨e15, -, -, -, -, -, -, -, -, -, -⟩ := hV
 replace e4 := ft hR e4
 replace e5 := ft hR e5
 replace e6 := ft hR e6
 replace e7 := ft hR e7
 replace e8 := ft hR e8
 replace e9 := ft hR e9
 replace e11 := ft hR e11
 replace e13 := ft hR e13
 replace D_v24_11_1 := D_v24_11_1.ext hk
 replace D_v24_11_5 := D_v24_11_5.ext hk
 replace D_v24_11_6 := D_v24_11_6.ext hk
 replace D_cn33_14 := D_cn33_14.ext hk
 replace D_ci33_14 := D_ci33_14.ext hk
 replace D_v37_17_1 := D_v37_17_1.ext hk
 replace D_v37_17_5 := D_v37_17_5.ext hk
 replace D_v37_17_6 := D_v37_17_6.ext hk
 replace D_cn42_21 := D_cn42_21.ext hk
 replace D_ci42_21 := D_ci42_21.ext hk
 replace e15 := e15.q
 replace own_b2_4 := own_b2_4.ext hk
 replace own_b1_4 := own_b1_4.ext hk
 replace own_b3_8 := own_b3_8.ext hk
 replace own_b4_11 := own_b4_11.ext hk
 replace own_b5_14 := own_b5_14.ext hk
 replace own_b6_17 := own_b6_17.ext hk
 replace own_b8_21 := own_b8_21.ext hk
 replace kw := kw.x hk
 clear hR hk hg hP
 refine zn (hK28 _ _ ?_)
 refine zq fun K30 hK30 => ?_
 refine rg mixed y29 zz29 ?_
 refine .i (fo 1 (hbs rfl e6) Tryz.underlying46 rfl sz22 rfl) ?_
 refine .i (lo1 (hlc rfl) own_b6_17 trivial agg22 sz22 rfl) ?_
 refine .i (v := (.tuple #[(.string (hashS ((ofRV awV).hs) ⟨#[115, 104, 97, 50, 53, 54]⟩)), (.bool (hashB ((ofRV awV).hs) ⟨#[115, 104, 97, 50, 53, 54]⟩))])) (sp_call2 (φ1 := IsD (SF w [b8_21, b6_17, b5_14, b4_11, b3_8, b2_4, b1_4]) (hssD ((ofRV awV).hs))) (φ2 := Is (.string (⟨#[115, 104, 97, 50, 53, 54]⟩))) ent11 ((hlc rfl).dat D_v37_17_1 sub_all) Has.cst (fun g u1 u2 W hk hgk h1 h2 => by have h2 : u2 = _ := h2; subst u2; exact Hash_ok ((ofRV awV).hs) (⟨#[115, 104, 97, 50, 53, 54]⟩) W _ _ h1)) ?_
 refine .i (sp_move (hlc rfl)) ?_
 refine .i (v := (.string (hashS ((ofRV awV).hs) ⟨#[115, 104, 97, 50, 53, 54]⟩))) (sp_extT (hlc rfl) rfl) ?_
 refine .i (v := (.bool (hashB ((ofRV awV).hs) ⟨#[115, 104, 97, 50, 53, 54]⟩))) (sp_extT (hlc rfl) rfl) ?_
 refine .al rfl ?_
 refine .al rfl ?_
 refine .dn fun a31 g W31 y31 zz31 hk hg hV hR hP => ?_
 obtain ⟨e17, e16, -, -, -, -, -, -, -⟩ := hV
 replace e4 := ft hR e4
 replace e5 := ft hR e5
 replace e6 := ft hR e6
 replace e7 := ft hR e7
 replace e8 := ft hR e8
 replace e9 := ft hR e9
 replace e11 := ft hR e11
 replace e13 := ft hR e13
 replace e15 := ft hR e15
 replace D_v24_11_1 := D_v24_11_1.ext hk
 replace D_v24_11_5 := D_v24_11_5.ext hk
 replace D_v24_11_6 := D_v24_11_6.ext hk
 replace D_cn33_14 := D_cn33_14.ext hk
 replace D_ci33_14 := D_ci33_14.ext hk
 replace D_v37_17_1 := D_v37_17_1.ext hk
 replace D_v37_17_5 := D_v37_17_5.ext hk
 replace D_v37_17_6 := D_v37_17_6.ext hk
 replace D_cn42_21 := D_cn42_21.ext hk
 replace D_ci42_21 := D_ci42_21.ext hk
 replace e16 := e16.q
 replace e17 := e17.q
 replace own_b2_4 := own_b2_4.ext hk
 replace own_b1_4 := own_b1_4.ext hk
 replace own_b3_8 := own_b3_8.ext hk
 replace own_b4_11 := own_b4_11.ext hk
 replace own_b5_14 := own_b5_14.ext hk
 replace own_b6_17 := own_b6_17.ext hk
 replace own_b8_21 := own_b8_21.ext hk
 replace kw := kw.x hk
 clear hR hk hg hP
 refine zn (hK30 _ _ ?_)
 refine zq fun K32 hK32 => ?_
 refine rg mixed y31 zz31 ?_
 refine .mb rfl e7 ?_
 refine .i (sp_eql (hlc rfl) Has.cst) ?_
 refine .i (sp_move (hlc rfl)) ?_
 refine .e (v := (.agg #[(.int .i64 ((ofRV awV).ln)), (.slice v37_17_1a (((ofRV awV).hs).length) v37_17_1c), (.int .u8 ((ofRV awV).cu.k)), (.int .i64 ((ofRV awV).cu.n)), (.string ((ofRV awV).cu.t)), (.slice v37_17_5a (((ofRV awV).cu.ns).length) v37_17_5c), (.slice v37_17_6a (((ofRV awV).cu.xs).length) v37_17_6c)])) rfl (hlc rfl) (fun hg => loA (hbs rfl e6) own_b6_17 trivial agg46 sz46 rfl rfl) ?_
 refine .e (v := (.agg #[(.int .i64 (awR.ln)), (.slice v24_11_1a ((awR.hs).length) v24_11_1c), (.int .u8 (awR.cu.k)), (.int .i64 (awR.cu.n)), (.string (awR.cu.t)), (.slice v24_11_5a ((awR.cu.ns).length) v24_11_5c), (.slice v24_11_6a ((awR.cu.xs).length) v24_11_6c)])) rfl (hlc rfl) (fun hg => loA (hbs rfl e4) own_b4_11 trivial agg46 sz46 rfl rfl) ?_
 refine .e (v := (.bool (sameR (ofRV awV) awR))) rfl (hlc rfl) (fun hg => sp_call2 (φ1 := IsD (SF w [b8_21, b6_17, b5_14, b4_11, b3_8, b2_4, b1_4]) (Rc.d ((ofRV awV)))) (φ2 := IsD (SF w [b8_21, b6_17, b5_14, b4_11, b3_8, b2_4, b1_4]) (Rc.d awR)) ent24 (((hlc rfl).undE hg).dat (rdRc_mk D_v37_17_1 (rdV_in (x := (ofRV awV).cu) hb_v37_17_4 D_v37_17_5 D_v37_17_6 : Rd W31 (SF w [b8_21, b6_17, b5_14, b4_11, b3_8, b2_4, b1_4]) (V.d ((ofRV awV).cu)) _) : Rd W31 (SF w [b8_21, b6_17, b5_14, b4_11, b3_8, b2_4, b1_4]) (Rc.d ((ofRV awV))) _) sub_all) (((hlc rfl).undE hg).dat (rdRc_mk D_v24_11_1 (rdV_in (x := awR.cu) hb_v24_11_4 D_v24_11_5 D_v24_11_6 : Rd W31 (SF w [b8_21, b6_17, b5_14, b4_11, b3_8, b2_4, b1_4]) (V.d (awR.cu)) _) : Rd W31 (SF w [b8_21, b6_17, b5_14, b4_11, b3_8, b2_4, b1_4]) (Rc.d awR) _) sub_all) (fun g u1 u2 W hk hgk h1 h2 => refSameR_ok ((ofRV awV)) awR (Nat.le_of_ble_eq_true (by kernel_rfl)) (Nat.le_of_ble_eq_true (by kernel_rfl)) W _ _ _ h1 h2)) ?_
 refine .i (sp_and (hlc rfl) ((hlc rfl).weak fun hq => hq)) ?_
 refine .i (sp_move (hlc rfl)) ?_
 refine .e (v := (.agg #[(.int .i64 ((ofRV awV).ln)), (.slice v37_17_1a (((ofRV awV).hs).length) v37_17_1c), (.int .u8 ((ofRV awV).cu.k)), (.int .i64 ((ofRV awV).cu.n)), (.string ((ofRV awV).cu.t)), (.slice v37_17_5a (((ofRV awV).cu.ns).length) v37_17_5c), (.slice v37_17_6a (((ofRV awV).cu.xs).length) v37_17_6c)])) rfl (hlc rfl) (fun hg => loA (hbs rfl e6) own_b6_17 trivial agg46 sz46 rfl rfl) ?_
 refine .e (v := (.bool (mayR (ofRV awV)))) rfl (hlc rfl) (fun hg => sp_call1 (φ1 := IsD (SF w [b8_21, b6_17, b5_14, b4_11, b3_8, b2_4, b1_4]) (Rc.d ((ofRV awV)))) ent25 (((hlc rfl).undE hg).dat (rdRc_mk D_v37_17_1 (rdV_in (x := (ofRV awV).cu) hb_v37_17_4 D_v37_17_5 D_v37_17_6 : Rd W31 (SF w [b8_21, b6_17, b5_14, b4_11, b3_8, b2_4, b1_4]) (V.d ((ofRV awV).cu)) _) : Rd W31 (SF w [b8_21, b6_17, b5_14, b4_11, b3_8, b2_4, b1_4]) (Rc.d ((ofRV awV))) _) sub_all) (fun g u1 W hk hgk h1 => MayR_ok ((ofRV awV)) (Nat.le_of_ble_eq_true (by kernel_rfl)) W _ _ (fun b o h => h.1.2.1) h1)) ?_
 refine .i (sp_and (hlc rfl) ((hlc rfl).weak fun hq => hq)) ?_
 refine .i (sp_move (hlc rfl)) ?_
 refine .opE (t := 82) (φ := _) rfl (hlc rfl) (st_is _) (fun hg => sp_move (hbs rfl e9)) ?_
 refine .e rfl (hlc rfl) (fun hg => sp_eql ((hlc rfl).undE hg) Has.cst) ?_
 refine .i (sp_and (hlc rfl) ((hlc rfl).weak fun hq => hq)) ?_
 refine .i (sp_move (hlc rfl)) ?_
 refine .e (v := (.agg #[(.int .u8 (awV.k)), (.int .i64 (awV.n)), (.string (awV.t)), (.slice cn33_14a ((awV.ns).length) cn33_14c), (.slice ci33_14a ((awV.xs).length) ci33_14c)])) rfl (hlc rfl) (fun hg => loA (hbs rfl e5) own_b5_14 trivial agg26 sz26 rfl rfl) ?_
 refine .e (v := (.agg #[(.int .u8 ((recV (ofRV awV)).k)), (.int .i64 ((recV (ofRV awV)).n)), (.string ((recV (ofRV awV)).t)), (.slice cn42_21a (((recV (ofRV awV)).ns).length) cn42_21c), (.slice ci42_21a (((recV (ofRV awV)).xs).length) ci42_21c)])) rfl (hlc rfl) (fun hg => loA (hbs rfl e8) own_b8_21 trivial agg26 sz26 rfl rfl) ?_
 refine .e (v := (.bool (V.beq awV ((recV (ofRV awV)))))) rfl (hlc rfl) (fun hg => sp_call2 (φ1 := IsD (SF w [b8_21, b6_17, b5_14, b4_11, b3_8, b2_4, b1_4]) (V.d awV)) (φ2 := IsD (SF w [b8_21, b6_17, b5_14, b4_11, b3_8, b2_4, b1_4]) (V.d ((recV (ofRV awV))))) ent14 (((hlc rfl).undE hg).dat (rdV_in (x := awV) ht_v33_14 D_cn33_14 D_ci33_14 : Rd W31 (SF w [b8_21, b6_17, b5_14, b4_11, b3_8, b2_4, b1_4]) (V.d awV) _) sub_all) (((hlc rfl).undE hg).dat (rdV_in (x := (recV (ofRV awV))) ht_v42_21 D_cn42_21 D_ci42_21 : Rd W31 (SF w [b8_21, b6_17, b5_14, b4_11, b3_8, b2_4, b1_4]) (V.d ((recV (ofRV awV)))) _) sub_all) (fun g u1 u2 W hk hgk h1 h2 => refSame_all _ awV ((recV (ofRV awV))) (Nat.le_refl _) (by first | omega | exact Nat.le_of_ble_eq_true (by kernel_rfl)) W _ _ _ h1 h2)) ?_
 refine .i (sp_and (hlc rfl) ((hlc rfl).weak fun hq => hq)) ?_
 refine .i (sp_move (hlc rfl)) ?_
 refine .em rfl (hlc rfl) rfl e11 ?_
 refine .e rfl (hlc rfl) (fun hg => sp_eql ((hlc rfl).undE hg) Has.cst) ?_
 refine .i (sp_and (hlc rfl) ((hlc rfl).weak fun hq => hq)) ?_
 refine .i (sp_move (hlc rfl)) ?_
 refine .em rfl (hlc rfl) rfl e13 ?_
 refine .e rfl (hlc rfl) (fun hg => sp_eql ((hlc rfl).undE hg) Has.cst) ?_
 refine .i (sp_and (hlc rfl) ((hlc rfl).weak fun hq => hq)) ?_
 refine .i (sp_move (hlc rfl)) ?_
 refine .em rfl (hlc rfl) rfl e15 ?_
 refine .e rfl (hlc rfl) (fun hg => sp_eql ((hlc rfl).undE hg) Has.cst) ?_
 refine .i (sp_and (hlc rfl) ((hlc rfl).weak fun hq => hq)) ?_
 refine .i (sp_move (hlc rfl)) ?_
 refine .opE (t := 103) (φ := _) rfl (hlc rfl) (st_is _) (fun hg => sp_move (hbs rfl e16)) ?_
 refine .e rfl (hlc rfl) (fun hg => sp_sEql ((hlc rfl).undE hg) Has.cst) ?_
 refine .i (sp_and (hlc rfl) ((hlc rfl).weak fun hq => hq)) ?_
 refine .i (sp_move (hlc rfl)) ?_
 refine .opE (t := 107) (φ := _) rfl (hlc rfl) (st_is _) (fun hg => sp_move (hbs rfl e17)) ?_
 refine .i (sp_and (hlc rfl) ((hlc rfl).weak fun hq => hq)) ?_
 refine .i (sp_move (hlc rfl)) ?_
 refine .e (v := (.agg #[(.int .i64 ((ofRV awV).ln)), (.slice v37_17_1a (((ofRV awV).hs).length) v37_17_1c), (.int .u8 ((ofRV awV).cu.k)), (.int .i64 ((ofRV awV).cu.n)), (.string ((ofRV awV).cu.t)), (.slice v37_17_5a (((ofRV awV).cu.ns).length) v37_17_5c), (.slice v37_17_6a (((ofRV awV).cu.xs).length) v37_17_6c)])) rfl (hlc rfl) (fun hg => loA (hbs rfl e6) own_b6_17 trivial agg46 sz46 rfl rfl) ?_
 refine .e (v := (.agg #[(.int .i64 (awR.ln)), (.slice v24_11_1a ((awR.hs).length) v24_11_1c), (.int .u8 (awR.cu.k)), (.int .i64 (awR.cu.n)), (.string (awR.cu.t)), (.slice v24_11_5a ((awR.cu.ns).length) v24_11_5c), (.slice v24_11_6a ((awR.cu.xs).length) v24_11_6c)])) rfl (hlc rfl) (fun hg => loA (hbs rfl e4) own_b4_11 trivial agg46 sz46 rfl rfl) ?_
 refine .e (v := (.bool (sameR (ofRV awV) awR))) rfl (hlc rfl) (fun hg => sp_call2 (φ1 := IsD (SF w [b8_21, b6_17, b5_14, b4_11, b3_8, b2_4, b1_4]) (Rc.d ((ofRV awV)))) (φ2 := IsD (SF w [b8_21, b6_17, b5_14, b4_11, b3_8, b2_4, b1_4]) (Rc.d awR)) ent26 (((hlc rfl).undE hg).dat (rdRc_mk D_v37_17_1 (rdV_in (x := (ofRV awV).cu) hb_v37_17_4 D_v37_17_5 D_v37_17_6 : Rd W31 (SF w [b8_21, b6_17, b5_14, b4_11, b3_8, b2_4, b1_4]) (V.d ((ofRV awV).cu)) _) : Rd W31 (SF w [b8_21, b6_17, b5_14, b4_11, b3_8, b2_4, b1_4]) (Rc.d ((ofRV awV))) _) sub_all) (((hlc rfl).undE hg).dat (rdRc_mk D_v24_11_1 (rdV_in (x := awR.cu) hb_v24_11_4 D_v24_11_5 D_v24_11_6 : Rd W31 (SF w [b8_21, b6_17, b5_14, b4_11, b3_8, b2_4, b1_4]) (V.d (awR.cu)) _) : Rd W31 (SF w [b8_21, b6_17, b5_14, b4_11, b3_8, b2_4, b1_4]) (Rc.d awR) _) sub_all) (fun g u1 u2 W hk hgk h1 h2 => SameR_ok ((ofRV awV)) awR (Nat.le_of_ble_eq_true (by kernel_rfl)) (Nat.le_of_ble_eq_true (by kernel_rfl)) W _ _ _ (fun b o h => h.1.2.1) h1 h2)) ?_
 refine .i (sp_and (hlc rfl) ((hlc rfl).weak fun hq => hq)) ?_
 refine .i (sp_move (hlc rfl)) ?_
 refine .e (v := (.agg #[(.int .i64 ((ofRV awV).ln)), (.slice v37_17_1a (((ofRV awV).hs).length) v37_17_1c), (.int .u8 ((ofRV awV).cu.k)), (.int .i64 ((ofRV awV).cu.n)), (.string ((ofRV awV).cu.t)), (.slice v37_17_5a (((ofRV awV).cu.ns).length) v37_17_5c), (.slice v37_17_6a (((ofRV awV).cu.xs).length) v37_17_6c)])) rfl (hlc rfl) (fun hg => loA (hbs rfl e6) own_b6_17 trivial agg46 sz46 rfl rfl) ?_
 refine .e (v := (.agg #[(.int .i64 (0)), (.slice none 0 0), (.int .u8 (0)), (.int .i64 (0)), (.string (⟨#[]⟩)), (.slice none 0 0), (.slice none 0 0)])) rfl (hlc rfl) (fun hg => sp_build (vs := []) Tryz.underlying46 z46 (pl46 Tryz.underlying46) trivial rfl) ?_
 refine .e (v := (.bool (sameR (ofRV awV) (Rc.mk (0) ([]) (V.mk (0) (0) (⟨#[]⟩) ([]) ([])))))) rfl (hlc rfl) (fun hg => sp_call2 (φ1 := IsD (SF w [b8_21, b6_17, b5_14, b4_11, b3_8, b2_4, b1_4]) (Rc.d ((ofRV awV)))) (φ2 := IsD (SF w [b8_21, b6_17, b5_14, b4_11, b3_8, b2_4, b1_4]) (Rc.d (Rc.mk (0) ([]) (V.mk (0) (0) (⟨#[]⟩) ([]) ([]))))) ent26 (((hlc rfl).undE hg).dat (rdRc_mk D_v37_17_1 (rdV_in (x := (ofRV awV).cu) hb_v37_17_4 D_v37_17_5 D_v37_17_6 : Rd W31 (SF w [b8_21, b6_17, b5_14, b4_11, b3_8, b2_4, b1_4]) (V.d ((ofRV awV).cu)) _) : Rd W31 (SF w [b8_21, b6_17, b5_14, b4_11, b3_8, b2_4, b1_4]) (Rc.d ((ofRV awV))) _) sub_all) (((hlc rfl).undE hg).dat (rdRc_mk (rd_nil _) (rdV_mk (lbr rfl) (rd_nil _) (rd_nil _) : Rd W31 (SF w [b8_21, b6_17, b5_14, b4_11, b3_8, b2_4, b1_4]) (V.d (V.mk (0) (0) (⟨#[]⟩) ([]) ([]))) _) : Rd W31 (SF w [b8_21, b6_17, b5_14, b4_11, b3_8, b2_4, b1_4]) (Rc.d (Rc.mk (0) ([]) (V.mk (0) (0) (⟨#[]⟩) ([]) ([])))) _) sub_all) (fun g u1 u2 W hk hgk h1 h2 => SameR_ok ((ofRV awV)) (Rc.mk (0) ([]) (V.mk (0) (0) (⟨#[]⟩) ([]) ([]))) (Nat.le_of_ble_eq_true (by kernel_rfl)) (Nat.le_of_ble_eq_true (by kernel_rfl)) W _ _ _ (fun b o h => h.1.2.1) h1 h2)) ?_
 refine .opE (t := 115) (φ := _) rfl (hlc rfl) (st_is _) (fun hg => sp_not ((hlc rfl).undE hg)) ?_
 refine .i (sp_and (hlc rfl) ((hlc rfl).weak fun hq => hq)) ?_
 refine .al rfl ?_
 refine .dn fun a33 g W33 y33 zz33 hk hg hV hR hP => ?_
 obtain ⟨e0, -, -, -, -, -, -, -, -, -, -, -, -, -, -, -, -, -, -, -, -, -, -, -, -, -, -, -, -, -, -, -, -, -, -, -, -, -, -, -, -, -, -, -, -, -, -, -, -, -, -, -⟩ := hV
 replace D_v24_11_1 := D_v24_11_1.ext hk
 replace D_v24_11_5 := D_v24_11_5.ext hk
 replace D_v24_11_6 := D_v24_11_6.ext hk
 replace D_cn33_14 := D_cn33_14.ext hk
 replace D_ci33_14 := D_ci33_14.ext hk
 replace D_v37_17_1 := D_v37_17_1.ext hk
 replace D_v37_17_5 := D_v37_17_5.ext hk
 replace D_v37_17_6 := D_v37_17_6.ext hk
 replace D_cn42_21 := D_cn42_21.ext hk
 replace D_ci42_21 := D_ci42_21.ext hk
 replace e0 := e0.q
 replace own_b2_4 := own_b2_4.ext hk
 replace own_b1_4 := own_b1_4.ext hk
 replace own_b3_8 := own_b3_8.ext hk
 replace own_b4_11 := own_b4_11.ext hk
 replace own_b5_14 := own_b5_14.ext hk
 replace own_b6_17 := own_b6_17.ext hk
 replace own_b8_21 := own_b8_21.ext hk
 replace kw := kw.x hk
 clear hR hk hg hP
 refine zn (hK32 _ _ ?_)
 refine wp_ret ?_
 refine ret1 rfl zz33 e0 ⟨_, rfl, kw, ?_⟩
 exact congrArg Value.bool (by kernel_rfl)
end Go.Proofs.YtnobijngkpflcaaGreat
namespace Go.Proofs.YtnobijngkpflcaaGreat
open Go.Eng
theorem long_x {x : V} {a b c : Bool} (h : (((a || b) || decide (20000 ≤ szL [x] 0 0)) || c) = false) : x.wt ≤ 1073741824 := by
  have h1 : ¬ 20000 ≤ szL [x] 0 0 := by simpa using (Bool.or_eq_false_iff.1 (Bool.or_eq_false_iff.1 h).1).2
  have h2 := szL_wt [x] 0 0 (Nat.lt_of_not_le h1)
  simp only [V.wts] at h2
  omega
theorem hvV_cnt (l : List Hs) : (hvV l).cnt ≤ 1073741824 := by
  unfold hvV
  cases h : mayH l with
  | true => exact Nat.le_trans (cnt_wt _) (Nat.le_trans (hshO_wt h) (by decide))
  | false => exact Nat.le_of_ble_eq_true (by kernel_rfl)
theorem hvV_leaf (l : List Hs) : ∀ x ∈ (hvV l).xs, x.ns = [] ∧ x.xs = [] := by
  unfold hvV
  cases h : mayH l with
  | true =>
    rw [if_pos rfl, hshO_may h]
    intro x hx
    obtain ⟨a, -, rfl⟩ := List.mem_map.1 (show x ∈ l.map hsT from hx)
    exact ⟨rfl, rfl⟩
  | false =>
    intro x hx
    exact absurd hx (by simp [V.zero, V.xs])
set_option maxRecDepth 100000 in
set_option maxHeartbeats 1000000 in
theorem RecordHashes_ok (la lb : List Hs) (x : V) (al : ByteArray) (hal : al.size ≤ maxLen) (w : World) (S : BSet) (va vb vx : Value) (ha : Rd w S (hssD la) va) (hb : Rd w S (hssD lb) vb) (hx : Rd w S x.d vx) : Calls Tryz.prog 3 #[va, vb, vx, .string al] w (Ret w fun u _ => u = .bool true) := by
 obtain ⟨vaa, vac, ev, D_va⟩ := rdHss_out (rd_arg ha)
 subst ev
 obtain ⟨vba, vbc, ev, D_vb⟩ := rdHss_out (rd_arg hb)
 subst ev
 obtain ⟨cn2a, cn2c, ci2a, ci2c, ev, ht2, D_cn2, D_ci2⟩ := rdV_out (rd_arg hx)
 subst ev
 refine enter Tryz.func3 rfl Tryz.ntmps3 (lbr rfl) fun a0 y0 zz0 harg => ?_
 have e0 : sl a0 0 = (.slice vaa (la.length) vac) := harg 0 (lbr rfl)
 have e1 : sl a0 1 = (.slice vba (lb.length) vbc) := harg 1 (lbr rfl)
 have e2 : sl a0 2 = (.agg #[(.int .u8 (x.k)), (.int .i64 (x.n)), (.string (x.t)), (.slice cn2a (x.ns.length) cn2c), (.slice ci2a (x.xs.length) ci2c)]) := harg 2 (lbr rfl)
 have e3 : sl a0 3 = (.string (al)) := harg 3 (lbr rfl)
 have kw := Keeps.refl All w
 clear harg
 refine zq fun K1 hK1 => ?_
 refine rg mixed y0 zz0 ?_
 refine .boxOp (v := (.agg #[(.int .u8 (x.k)), (.int .i64 (x.n)), (.string (x.t)), (.slice cn2a (x.ns.length) cn2c), (.slice ci2a (x.xs.length) ci2c)])) (hbs rfl e2) ?_
 refine .ac ?_
 refine .dn fun a2 g W2 y2 zz2 hk hg hV hR hP => ?_
 obtain ⟨-, ⟨b6_2, e6, hb6, own_b6_2⟩, -⟩ := hV
 have lo_b6_2 : w.heap.size ≤ b6_2 := Nat.le_trans kw.size (hg.lo _ _ hb6)
 have own_b6_2 : Own W2 b6_2 [(.int .u8 (x.k)), (.int .i64 (x.n)), (.string (x.t)), (.slice cn2a (x.ns.length) cn2c), (.slice ci2a (x.xs.length) ci2c)] 26 := own_b6_2
 replace e0 := ft hR e0
 replace e1 := ft hR e1
 replace e3 := ft hR e3
 replace D_va := sa_more D_va hk [b6_2] (in_cons (hg.lo _ _ hb6) in_nil)
 replace D_vb := sa_more D_vb hk [b6_2] (in_cons (hg.lo _ _ hb6) in_nil)
 replace D_cn2 := sa_more D_cn2 hk [b6_2] (in_cons (hg.lo _ _ hb6) in_nil)
 replace D_ci2 := sa_more D_ci2 hk [b6_2] (in_cons (hg.lo _ _ hb6) in_nil)
 replace kw := kw.x hk
 clear hR hk hg hP hb6
 refine zn (hK1 _ _ ?_)
 refine zq fun K3 hK3 => ?_
 refine zq fun K4 hK4 => ?_
 refine rg mixed y2 zz2 ?_
 refine .mb rfl e0 ?_
 refine .i (v := (.bool (decide (5000 ≤ szH la 0)))) (sp_call1 (φ1 := IsD (SA w S [b6_2]) (hssD (la))) ent4 ((hlc rfl).dat D_va sub_all) (fun g u1 W hk hgk h1 => LongH_ok (la) W _ _ h1)) ?_
 refine .i (sp_move (hlc rfl)) ?_
 refine .em rfl (hlc rfl) rfl e1 ?_
 refine .e (v := (.bool (decide (5000 ≤ szH lb 0)))) rfl (hlc rfl) (fun hg => sp_call1 (φ1 := IsD (SA w S [b6_2]) (hssD (lb))) ent4 (((hlc rfl).undE hg).dat D_vb sub_all) (fun g u1 W hk hgk h1 => LongH_ok (lb) W _ _ h1)) ?_
 refine .i (sp_or (hlc rfl) ((hlc rfl).weak fun hq => hq)) ?_
 refine .i (sp_move (hlc rfl)) ?_
 refine .e (v := (.agg #[(.int .u8 (x.k)), (.int .i64 (x.n)), (.string (x.t)), (.slice cn2a (x.ns.length) cn2c), (.slice ci2a (x.xs.length) ci2c)])) rfl (hlc rfl) (fun hg => loA (hbs rfl e6) own_b6_2 trivial agg26 sz26 rfl rfl) ?_
 refine .opE (t := 28) (φ := IsD (SA w S [b6_2]) (valsD ([x]))) rfl (hlc rfl) (st_d sub_all) (fun hg => sp_bsl (ds := [V.d (x)]) Tryz.underlying24 sz26 z26 (lbr rfl) (lbr rfl) ⟨rfl, (((hlc rfl).undE hg).dat (rdV_in (x := x) ht2 D_cn2 D_ci2 : Rd W2 (SA w S [b6_2]) (V.d (x)) _) sub_all), trivial⟩ rfl (by intro e he; simp at he; rcases he with rfl <;> exact width_V _) (fr_sa kw (in_cons own_b6_2.lt in_nil))) ?_
 refine .e (v := (.bool (decide (20000 ≤ szL ([x]) 0 0)))) rfl (hlc rfl) (fun hg => sp_call1 (φ1 := IsD (SA w S [b6_2]) (valsD ([x]))) ent5 ((hlc rfl).undE hg) (fun g u1 W hk hgk h1 => Long_ok ([x]) W _ _ h1)) ?_
 refine .i (sp_or (hlc rfl) ((hlc rfl).weak fun hq => hq)) ?_
 refine .i (sp_move (hlc rfl)) ?_
 refine .em rfl (hlc rfl) rfl e3 ?_
 refine .e rfl (hlc rfl) (fun hg => sp_lenS Tryz.underlying9 ((hlc rfl).undE hg)) ?_
 refine .e rfl (hlc rfl) (fun hg => sp_gtr ((hlc rfl).undE hg) Has.cst) ?_
 refine .i (sp_or (hlc rfl) ((hlc rfl).weak fun hq => hq)) ?_
 refine .dn fun a5 g W5 y5 zz5 hk hg hV hR hP => ?_
 obtain ⟨e37, -, -, -, -, -, -, -, -, -, -, -, -, -, -, -, -⟩ := hV
 replace e0 := ft hR e0
 replace e1 := ft hR e1
 replace e3 := ft hR e3
 replace e6 := ft hR e6
 replace D_va := D_va.ext hk
 replace D_vb := D_vb.ext hk
 replace D_cn2 := D_cn2.ext hk
 replace D_ci2 := D_ci2.ext hk
 replace e37 := e37.q
 replace own_b6_2 := own_b6_2.ext hk
 replace kw := kw.x hk
 clear hR hk hg hP
 refine zn (hK4 _ _ ?_)
 refine zc e37 (fun hc => ?_) (fun hc => ?_)
 ·
  refine zq fun K6 hK6 => ?_
  refine rg mixed y5 zz5 ?_
  refine .i (v := (.bool (true))) (sp_call0  ent6  (fun g  W hk hgk  => awakeR_ok W)) ?_
  refine .al rfl ?_
  refine .dn fun a7 g W7 y7 zz7 hk hg hV hR hP => ?_
  obtain ⟨e8, -, -⟩ := hV
  replace D_va := D_va.ext hk
  replace D_vb := D_vb.ext hk
  replace D_cn2 := D_cn2.ext hk
  replace D_ci2 := D_ci2.ext hk
  replace e8 := e8.q
  replace own_b6_2 := own_b6_2.ext hk
  replace kw := kw.x hk
  clear hR hk hg hP
  refine zn (hK6 _ _ ?_)
  refine wp_ret ?_
  refine ret1 rfl zz7 e8 ⟨_, rfl, kw, ?_⟩
  exact rfl
 have hxw := long_x hc
 have hcw := hvV_cnt la
 refine wp_skip (hK3 _ _ ?_)
 refine zq fun K8 hK8 => ?_
 refine rg mixed y5 zz5 ?_
 refine .mb rfl e0 ?_
 refine .op (φ := IsT (IsJ (IsD (Fr W5) (V.d (hvV la)))) (Is (.int .i64 (hvE la)))) (st_t (st_j (st_d sub_all)) (st_is _)) (sp_call1 (φ1 := IsD (SA w S [b6_2]) (hssD (la))) ent7 ((hlc rfl).dat D_va sub_all) (fun g u1 W hk hgk h1 => (HashesValueJ_ok (la) W _ _ h1).mono (fun _ _ ⟨v, h1, h2, r1, h3, h4, h5⟩ => ⟨v, h1, h2, r1, _, h3, ⟨fresh_d hk hgk h4, h5⟩, rfl⟩))) ?_
 refine .op (φ := IsT (IsJ (IsD (Fr W5) (V.d (hvV la)))) (Is (.int .i64 (hvE la)))) (st_t (st_j (st_d sub_all)) (st_is _)) (sp_move (hlc rfl)) ?_
 refine .op (φ := IsJ (IsD (Fr W5) (V.d (hvV la)))) (st_j (st_d sub_all)) (sp_ext2 (hlc rfl) rfl) ?_
 refine .i (v := (.int .i64 (hvE la))) (sp_ext2' (hlc rfl) rfl) ?_
 refine .alloc z26 ?_
 refine .dn fun a9 g W9 y9 zz9 hk hg hV hR hP => ?_
 obtain ⟨⟨b9_9, e9, hb9, own_b9_9⟩, e43, e42, -, -, -, -⟩ := hV
 have lo_b9_9 : w.heap.size ≤ b9_9 := Nat.le_trans kw.size (hg.lo _ _ hb9)
 have ne_b6_2_b9_9 : b6_2 ≠ b9_9 := Nat.ne_of_lt (Nat.lt_of_lt_of_le own_b6_2.lt (hg.lo _ _ hb9))
 have own_b9_9 : Own W9 b9_9 [(.int .u8 (0)), (.int .i64 (0)), (.string (⟨#[]⟩)), (.slice none 0 0), (.slice none 0 0)] 26 := own_b9_9
 replace e0 := ft hR e0
 replace e1 := ft hR e1
 replace e3 := ft hR e3
 replace e6 := ft hR e6
 replace D_va := sa_more D_va hk [b9_9] (in_cons (hg.lo _ _ hb9) in_nil)
 replace D_vb := sa_more D_vb hk [b9_9] (in_cons (hg.lo _ _ hb9) in_nil)
 replace D_cn2 := sa_more D_cn2 hk [b9_9] (in_cons (hg.lo _ _ hb9) in_nil)
 replace D_ci2 := sa_more D_ci2 hk [b9_9] (in_cons (hg.lo _ _ hb9) in_nil)
 obtain ⟨v42_9, ev⟩ : ∃ v, sl a9 42 = v := ⟨_, rfl⟩
 rw [ev] at e42
 have hdj_v42_9 := e42.2; replace e42 := e42.1
 have D_v42_9 : Rd W9 (SF w [b9_9, b6_2]) (V.d (hvV la)) v42_9 := fr_end (M := [b6_2]) e42 kw [b9_9] (in_cons ⟨_, hb9⟩ in_nil) (in_cons own_b6_2.lt in_nil)
 replace e42 := ev; clear ev
 obtain ⟨cn42_9a, cn42_9c, ci42_9a, ci42_9c, ev, ht_v42_9, D_cn42_9, D_ci42_9⟩ := rdV_out D_v42_9
 subst ev; clear D_v42_9
 replace e43 := e43.q
 replace own_b6_2 := own_b6_2.ext hk
 replace kw := kw.x hk
 clear hR hk hg hP hb9
 refine tail_store e9 e42 sz26 rfl own_b9_9 (lbr rfl) (all_cons rfl (all_cons rfl (all_cons rfl (all_cons rfl (all_cons rfl all_nil))))) (fun W10 hs own_b9_9 => ?_)
 have own_b9_9 : Own W10 b9_9 [(.int .u8 ((hvV la).k)), (.int .i64 ((hvV la).n)), (.string ((hvV la).t)), (.slice cn42_9a (((hvV la).ns).length) cn42_9c), (.slice ci42_9a (((hvV la).xs).length) ci42_9c)] 26 := own_b9_9
 replace own_b6_2 := own_store own_b6_2 hs ne_b6_2_b9_9
 replace D_va := sa_store D_va hs (by simp)
 replace D_vb := sa_store D_vb hs (by simp)
 replace D_cn2 := sa_store D_cn2 hs (by simp)
 replace D_ci2 := sa_store D_ci2 hs (by simp)
 replace D_cn42_9 := sf_store D_cn42_9 hs (by simp)
 replace D_ci42_9 := sf_store D_ci42_9 hs (by simp)
 replace kw := keeps_store kw hs lo_b9_9
 clear hs
 refine tail_assign (v := (.int .i64 (hvE la))) e43 (by rw [y9]; exact Nat.le_of_ble_eq_true rfl) (fun a11 y11 zz11 e10 hr => ?_)
 replace y11 := y11.trans y9; replace zz11 := zz11.trans zz9
 replace e0 := (hr 0 (by decide)).trans e0
 replace e1 := (hr 1 (by decide)).trans e1
 replace e3 := (hr 3 (by decide)).trans e3
 replace e6 := (hr 6 (by decide)).trans e6
 replace e9 := (hr 9 (by decide)).trans e9
 replace e42 := (hr 42 (by decide)).trans e42
 replace e43 := (hr 43 (by decide)).trans e43
 clear hr
 refine zn (hK8 _ _ ?_)
 refine zq fun K12 hK12 => ?_
 refine rg mixed y11 zz11 ?_
 refine .mb rfl e0 ?_
 refine .op (φ := IsT (IsD (Fr W10) (V.d (hvV la))) (Is (.int .i64 (hvE la)))) (st_t (st_d sub_all) (st_is _)) (sp_call1 (φ1 := IsD (SA w S [b9_9, b6_2]) (hssD (la))) ent8 ((hlc rfl).dat D_va sub_all) (fun g u1 W hk hgk h1 => (HashesValue21_ok (la) W _ _ h1).mono (fun _ _ ⟨v, h1, h2, r1, h3, h4⟩ => ⟨v, h1, h2, r1, _, h3, fresh_d hk hgk h4, rfl⟩))) ?_
 refine .op (φ := IsT (IsD (Fr W10) (V.d (hvV la))) (Is (.int .i64 (hvE la)))) (st_t (st_d sub_all) (st_is _)) (sp_move (hlc rfl)) ?_
 refine .da (X := Fr W10) (e := V.d (hvV la)) (sp_ext2 (hlc rfl) rfl) ?_
 refine .i (v := (.int .i64 (hvE la))) (sp_ext2' (hlc rfl) rfl) ?_
 refine .alloc z26 ?_
 refine .dn fun a13 g W13 y13 zz13 hk hg hV hR hP => ?_
 obtain ⟨⟨b11_13, e11, hb11, own_b11_13⟩, e48, e47, -, -, -, -⟩ := hV
 have lo_b11_13 : w.heap.size ≤ b11_13 := Nat.le_trans kw.size (hg.lo _ _ hb11)
 have ne_b6_2_b11_13 : b6_2 ≠ b11_13 := Nat.ne_of_lt (Nat.lt_of_lt_of_le own_b6_2.lt (hg.lo _ _ hb11))
 have ne_b9_9_b11_13 : b9_9 ≠ b11_13 := Nat.ne_of_lt (Nat.lt_of_lt_of_le own_b9_9.lt (hg.lo _ _ hb11))
 have own_b11_13 : Own W13 b11_13 [(.int .u8 (0)), (.int .i64 (0)), (.string (⟨#[]⟩)), (.slice none 0 0), (.slice none 0 0)] 26 := own_b11_13
 replace e0 := ft hR e0
 replace e1 := ft hR e1
 replace e3 := ft hR e3
 replace e6 := ft hR e6
 replace e9 := ft hR e9
 replace e10 := ft hR e10
 replace D_va := sa_more D_va hk [b11_13] (in_cons (hg.lo _ _ hb11) in_nil)
 replace D_vb := sa_more D_vb hk [b11_13] (in_cons (hg.lo _ _ hb11) in_nil)
 replace D_cn2 := sa_more D_cn2 hk [b11_13] (in_cons (hg.lo _ _ hb11) in_nil)
 replace D_ci2 := sa_more D_ci2 hk [b11_13] (in_cons (hg.lo _ _ hb11) in_nil)
 replace D_cn42_9 := sf_more D_cn42_9 hk [b11_13] (in_cons (hg.lo _ _ hb11) in_nil)
 replace D_ci42_9 := sf_more D_ci42_9 hk [b11_13] (in_cons (hg.lo _ _ hb11) in_nil)
 obtain ⟨v47_13, ev⟩ : ∃ v, sl a13 47 = v := ⟨_, rfl⟩
 rw [ev] at e47
 have D_v47_13 : Rd W13 (SF w [b11_13, b9_9, b6_2]) (V.d (hvV la)) v47_13 := fr_end (M := [b9_9, b6_2]) e47 kw [b11_13] (in_cons ⟨_, hb11⟩ in_nil) (in_cons own_b9_9.lt (in_cons own_b6_2.lt in_nil))
 replace e47 := ev; clear ev
 obtain ⟨cn47_13a, cn47_13c, ci47_13a, ci47_13c, ev, ht_v47_13, D_cn47_13, D_ci47_13⟩ := rdV_out D_v47_13
 subst ev; clear D_v47_13
 replace e48 := e48.q
 replace own_b6_2 := own_b6_2.ext hk
 replace own_b9_9 := own_b9_9.ext hk
 replace kw := kw.x hk
 clear hR hk hg hP hb11
 refine tail_store e11 e47 sz26 rfl own_b11_13 (lbr rfl) (all_cons rfl (all_cons rfl (all_cons rfl (all_cons rfl (all_cons rfl all_nil))))) (fun W14 hs own_b11_13 => ?_)
 have own_b11_13 : Own W14 b11_13 [(.int .u8 ((hvV la).k)), (.int .i64 ((hvV la).n)), (.string ((hvV la).t)), (.slice cn47_13a (((hvV la).ns).length) cn47_13c), (.slice ci47_13a (((hvV la).xs).length) ci47_13c)] 26 := own_b11_13
 replace own_b6_2 := own_store own_b6_2 hs ne_b6_2_b11_13
 replace own_b9_9 := own_store own_b9_9 hs ne_b9_9_b11_13
 replace D_va := sa_store D_va hs (by simp)
 replace D_vb := sa_store D_vb hs (by simp)
 replace D_cn2 := sa_store D_cn2 hs (by simp)
 replace D_ci2 := sa_store D_ci2 hs (by simp)
 replace D_cn42_9 := sf_store D_cn42_9 hs (by simp)
 replace D_ci42_9 := sf_store D_ci42_9 hs (by simp)
 replace D_cn47_13 := sf_store D_cn47_13 hs (by simp)
 replace D_ci47_13 := sf_store D_ci47_13 hs (by simp)
 replace kw := keeps_store kw hs lo_b11_13
 clear hs
 refine tail_assign (v := (.int .i64 (hvE la))) e48 (by rw [y13]; exact Nat.le_of_ble_eq_true rfl) (fun a15 y15 zz15 e12 hr => ?_)
 replace y15 := y15.trans y13; replace zz15 := zz15.trans zz13
 replace e0 := (hr 0 (by decide)).trans e0
 replace e1 := (hr 1 (by decide)).trans e1
 replace e3 := (hr 3 (by decide)).trans e3
 replace e6 := (hr 6 (by decide)).trans e6
 replace e9 := (hr 9 (by decide)).trans e9
 replace e10 := (hr 10 (by decide)).trans e10
 replace e11 := (hr 11 (by decide)).trans e11
 replace e47 := (hr 47 (by decide)).trans e47
 replace e48 := (hr 48 (by decide)).trans e48
 clear hr
 refine zn (hK12 _ _ ?_)
 refine zq fun K16 hK16 => ?_
 have K_va := D_va
 have K_vb := D_vb
 have K_cn2 := D_cn2
 have K_ci2 := D_ci2
 have K_cn42_9 := D_cn42_9
 have K_ci42_9 := D_ci42_9
 have K_cn47_13 := D_cn47_13
 have K_ci47_13 := D_ci47_13
 have hmk : Ext W14 W14 := Keeps.refl _ _
 have kwm := kw
 have ltm_b6_2 := own_b6_2.lt
 have ltm_b9_9 := own_b9_9.lt
 have ltm_b11_13 := own_b11_13.lt
 refine rg mixed y15 zz15 ?_
 refine .i (v := (.agg #[(.int .u8 (x.k)), (.int .i64 (x.n)), (.string (x.t)), (.slice cn2a (x.ns.length) cn2c), (.slice ci2a (x.xs.length) ci2c)])) (loA (hbs rfl e6) own_b6_2 trivial agg26 sz26 rfl rfl) ?_
 refine .op (φ := IsT (IsD (Fr W14) (hssD (hsOV (x)))) (Is (.int .i64 (hsOE (x))))) (st_t (st_d sub_all) (st_is _)) (sp_call1 (φ1 := IsD (SA w S [b11_13, b9_9, b6_2]) (V.d (x))) ent9 ((hlc rfl).dat (rdV_in (x := x) ht2 D_cn2 D_ci2 : Rd W14 (SA w S [b11_13, b9_9, b6_2]) (V.d (x)) _) sub_all) (fun g u1 W hk hgk h1 => (HashesOf_ok (x) hxw W _ _ h1).mono (fun _ _ ⟨v, h1, h2, r1, h3, h4⟩ => ⟨v, h1, h2, r1, _, h3, fresh_d hk hgk h4, rfl⟩))) ?_
 refine .op (φ := IsT (IsD (Fr W14) (hssD (hsOV (x)))) (Is (.int .i64 (hsOE (x))))) (st_t (st_d sub_all) (st_is _)) (sp_move (hlc rfl)) ?_
 refine .da (X := Fr W14) (e := hssD (hsOV (x))) (sp_ext2 (hlc rfl) rfl) ?_
 refine .i (v := (.int .i64 (hsOE (x)))) (sp_ext2' (hlc rfl) rfl) ?_
 refine .da (X := Fr W14) (e := hssD (hsOV (x))) (sp_assign (hlc rfl)) ?_
 refine .al rfl ?_
 refine .dn fun a17 g W17 y17 zz17 hk hg hV hR hP => ?_
 obtain ⟨e14, e13, -, -, -, -, -, -⟩ := hV
 replace e0 := ft hR e0
 replace e1 := ft hR e1
 replace e3 := ft hR e3
 replace e6 := ft hR e6
 replace e9 := ft hR e9
 replace e10 := ft hR e10
 replace e11 := ft hR e11
 replace e12 := ft hR e12
 replace D_va := D_va.ext hk
 replace D_vb := D_vb.ext hk
 replace D_cn2 := D_cn2.ext hk
 replace D_ci2 := D_ci2.ext hk
 replace D_cn42_9 := D_cn42_9.ext hk
 replace D_ci42_9 := D_ci42_9.ext hk
 replace D_cn47_13 := D_cn47_13.ext hk
 replace D_ci47_13 := D_ci47_13.ext hk
 obtain ⟨v13_17, ev⟩ : ∃ v, sl a17 13 = v := ⟨_, rfl⟩
 rw [ev] at e13
 have D_v13_17 : Rd W17 (SF W14 [b11_13, b9_9, b6_2]) (hssD (hsOV (x))) v13_17 := fr_end (M := [b11_13, b9_9, b6_2]) e13 (Keeps.refl All W14) [] in_nil (in_cons own_b11_13.lt (in_cons own_b9_9.lt (in_cons own_b6_2.lt in_nil)))
 replace e13 := ev; clear ev
 obtain ⟨v13_17a, v13_17c, ev, D2⟩ := rdHss_out D_v13_17
 subst ev; replace D_v13_17 := D2; clear D2
 replace e14 := e14.q
 replace own_b6_2 := own_b6_2.ext hk
 replace own_b9_9 := own_b9_9.ext hk
 replace own_b11_13 := own_b11_13.ext hk
 replace kw := kw.x hk
 replace hmk := hmk.trans hk
 clear hR hk hg hP
 refine zn (hK16 _ _ ?_)
 refine zq fun K18 hK18 => ?_
 refine rg mixed y17 zz17 ?_
 refine .i (v := (.agg #[(.int .u8 (x.k)), (.int .i64 (x.n)), (.string (x.t)), (.slice cn2a (x.ns.length) cn2c), (.slice ci2a (x.xs.length) ci2c)])) (loA (hbs rfl e6) own_b6_2 trivial agg26 sz26 rfl rfl) ?_
 refine .op (φ := IsT (IsD (Fr W17) (hssD (hsOV (x)))) (Is (.int .i64 (hsOE (x))))) (st_t (st_d sub_all) (st_is _)) (sp_call1 (φ1 := IsD (SA w S [b11_13, b9_9, b6_2]) (V.d (x))) ent10 ((hlc rfl).dat (rdV_in (x := x) ht2 D_cn2 D_ci2 : Rd W17 (SA w S [b11_13, b9_9, b6_2]) (V.d (x)) _) sub_all) (fun g u1 W hk hgk h1 => (HashesOf21_ok (x) hxw W _ _ h1).mono (fun _ _ ⟨v, h1, h2, r1, h3, h4⟩ => ⟨v, h1, h2, r1, _, h3, fresh_d hk hgk h4, rfl⟩))) ?_
 refine .op (φ := IsT (IsD (Fr W17) (hssD (hsOV (x)))) (Is (.int .i64 (hsOE (x))))) (st_t (st_d sub_all) (st_is _)) (sp_move (hlc rfl)) ?_
 refine .da (X := Fr W17) (e := hssD (hsOV (x))) (sp_ext2 (hlc rfl) rfl) ?_
 refine .i (v := (.int .i64 (hsOE (x)))) (sp_ext2' (hlc rfl) rfl) ?_
 refine .da (X := Fr W17) (e := hssD (hsOV (x))) (sp_assign (hlc rfl)) ?_
 refine .al rfl ?_
 refine .dn fun a19 g W19 y19 zz19 hk hg hV hR hP => ?_
 obtain ⟨e16, e15, -, -, -, -, -, -⟩ := hV
 replace e0 := ft hR e0
 replace e1 := ft hR e1
 replace e3 := ft hR e3
 replace e9 := ft hR e9
 replace e10 := ft hR e10
 replace e11 := ft hR e11
 replace e12 := ft hR e12
 replace e13 := ft hR e13
 replace e14 := ft hR e14
 replace D_va := D_va.ext hk
 replace D_vb := D_vb.ext hk
 replace D_cn2 := D_cn2.ext hk
 replace D_ci2 := D_ci2.ext hk
 replace D_cn42_9 := D_cn42_9.ext hk
 replace D_ci42_9 := D_ci42_9.ext hk
 replace D_cn47_13 := D_cn47_13.ext hk
 replace D_ci47_13 := D_ci47_13.ext hk
 replace D_v13_17 := D_v13_17.ext hk
 obtain ⟨v15_19, ev⟩ : ∃ v, sl a19 15 = v := ⟨_, rfl⟩
 rw [ev] at e15
 have D_v15_19 : Rd W19 (SF w [b11_13, b9_9, b6_2]) (hssD (hsOV (x))) v15_19 := fr_end (M := [b11_13, b9_9, b6_2]) e15 kw [] in_nil (in_cons own_b11_13.lt (in_cons own_b9_9.lt (in_cons own_b6_2.lt in_nil)))
 replace e15 := ev; clear ev
 obtain ⟨v15_19a, v15_19c, ev, D2⟩ := rdHss_out D_v15_19
 subst ev; replace D_v15_19 := D2; clear D2
 replace e16 := e16.q
 replace own_b6_2 := own_b6_2.ext hk
 replace own_b9_9 := own_b9_9.ext hk
 replace own_b11_13 := own_b11_13.ext hk
 replace kw := kw.x hk
 replace hmk := hmk.trans hk
 clear hR hk hg hP
 refine zn (hK18 _ _ ?_)
 refine zq fun K20 hK20 => ?_
 refine rg mixed y19 zz19 ?_
 refine .mb rfl e0 ?_
 refine .mb rfl e3 ?_
 refine .i (v := (.tuple #[(.string (hashS la al)), (.bool (hashB la al))])) (sp_call2 (φ1 := IsD (SA w S [b11_13, b9_9, b6_2]) (hssD (la))) (φ2 := Is (.string (al))) ent11 ((hlc rfl).dat D_va sub_all) (hlc rfl) (fun g u1 u2 W hk hgk h1 h2 => by have h2 : u2 = _ := h2; subst u2; exact Hash_ok (la) (al) W _ _ h1)) ?_
 refine .i (sp_move (hlc rfl)) ?_
 refine .i (v := (.string (hashS la al))) (sp_extT (hlc rfl) rfl) ?_
 refine .i (v := (.bool (hashB la al))) (sp_extT (hlc rfl) rfl) ?_
 refine .al rfl ?_
 refine .al rfl ?_
 refine .dn fun a21 g W21 y21 zz21 hk hg hV hR hP => ?_
 obtain ⟨e18, e17, -, -, -, -, -, -, -⟩ := hV
 replace e0 := ft hR e0
 replace e1 := ft hR e1
 replace e3 := ft hR e3
 replace e9 := ft hR e9
 replace e10 := ft hR e10
 replace e11 := ft hR e11
 replace e12 := ft hR e12
 replace e13 := ft hR e13
 replace e14 := ft hR e14
 replace e15 := ft hR e15
 replace e16 := ft hR e16
 replace D_va := D_va.ext hk
 replace D_vb := D_vb.ext hk
 replace D_cn42_9 := D_cn42_9.ext hk
 replace D_ci42_9 := D_ci42_9.ext hk
 replace D_cn47_13 := D_cn47_13.ext hk
 replace D_ci47_13 := D_ci47_13.ext hk
 replace D_v13_17 := D_v13_17.ext hk
 replace D_v15_19 := D_v15_19.ext hk
 replace e17 := e17.q
 replace e18 := e18.q
 replace own_b6_2 := own_b6_2.ext hk
 replace own_b9_9 := own_b9_9.ext hk
 replace own_b11_13 := own_b11_13.ext hk
 replace kw := kw.x hk
 replace hmk := hmk.trans hk
 clear hR hk hg hP
 refine zn (hK20 _ _ ?_)
 refine zq fun K22 hK22 => ?_
 refine rg mixed y21 zz21 ?_
 refine .mb rfl e0 ?_
 refine .mb rfl e3 ?_
 refine .i (v := (.tuple #[(.string (hashS la al)), (.bool (hashB la al))])) (sp_call2 (φ1 := IsD (SA w S [b11_13, b9_9, b6_2]) (hssD (la))) (φ2 := Is (.string (al))) ent12 ((hlc rfl).dat D_va sub_all) (hlc rfl) (fun g u1 u2 W hk hgk h1 h2 => by have h2 : u2 = _ := h2; subst u2; exact Hash21_ok (la) (al) W _ _ h1)) ?_
 refine .i (sp_move (hlc rfl)) ?_
 refine .i (v := (.string (hashS la al))) (sp_extT (hlc rfl) rfl) ?_
 refine .i (v := (.bool (hashB la al))) (sp_extT (hlc rfl) rfl) ?_
 refine .al rfl ?_
 refine .al rfl ?_
 refine .dn fun a23 g W23 y23 zz23 hk hg hV hR hP => ?_
 obtain ⟨e20, e19, -, -, -, -, -, -, -⟩ := hV
 replace e0 := ft hR e0
 replace e1 := ft hR e1
 replace e9 := ft hR e9
 replace e10 := ft hR e10
 replace e11 := ft hR e11
 replace e12 := ft hR e12
 replace e13 := ft hR e13
 replace e14 := ft hR e14
 replace e15 := ft hR e15
 replace e16 := ft hR e16
 replace e17 := ft hR e17
 replace e18 := ft hR e18
 replace D_va := D_va.ext hk
 replace D_vb := D_vb.ext hk
 replace D_cn42_9 := D_cn42_9.ext hk
 replace D_ci42_9 := D_ci42_9.ext hk
 replace D_cn47_13 := D_cn47_13.ext hk
 replace D_ci47_13 := D_ci47_13.ext hk
 replace D_v13_17 := D_v13_17.ext hk
 replace D_v15_19 := D_v15_19.ext hk
 replace e19 := e19.q
 replace e20 := e20.q
 replace own_b6_2 := own_b6_2.ext hk
 replace own_b9_9 := own_b9_9.ext hk
 replace own_b11_13 := own_b11_13.ext hk
 replace kw := kw.x hk
 replace hmk := hmk.trans hk
 clear hR hk hg hP
 refine zn (hK22 _ _ ?_)
 refine zq fun K24 hK24 => ?_
 refine rg mixed y23 zz23 ?_
 refine .mb rfl e13 ?_
 refine .mb rfl e15 ?_
 refine .i (v := (.bool (sameH (hsOV (x)) (hsOV (x))))) (sp_call2 (φ1 := IsD (SF w [b11_13, b9_9, b6_2]) (hssD (hsOV (x)))) (φ2 := IsD (SF w [b11_13, b9_9, b6_2]) (hssD (hsOV (x)))) ent13 (((hlc rfl).dat D_v13_17 sub_all).sup fun b o h => ⟨Nat.le_trans kwm.size h.1, h.2⟩) ((hlc rfl).dat D_v15_19 sub_all) (fun g u1 u2 W hk hgk h1 h2 => refSameHs_ok (hsOV (x)) (hsOV (x)) W _ _ _ h1 h2)) ?_
 refine .i (sp_move (hlc rfl)) ?_
 refine .e (v := (.agg #[(.int .u8 ((hvV la).k)), (.int .i64 ((hvV la).n)), (.string ((hvV la).t)), (.slice cn42_9a (((hvV la).ns).length) cn42_9c), (.slice ci42_9a (((hvV la).xs).length) ci42_9c)])) rfl (hlc rfl) (fun hg => loA (hbs rfl e9) own_b9_9 trivial agg26 sz26 rfl rfl) ?_
 refine .e (v := (.agg #[(.int .u8 ((hvV la).k)), (.int .i64 ((hvV la).n)), (.string ((hvV la).t)), (.slice cn47_13a (((hvV la).ns).length) cn47_13c), (.slice ci47_13a (((hvV la).xs).length) ci47_13c)])) rfl (hlc rfl) (fun hg => loA (hbs rfl e11) own_b11_13 trivial agg26 sz26 rfl rfl) ?_
 refine .e (v := (.bool (V.beq ((hvV la)) ((hvV la))))) rfl (hlc rfl) (fun hg => sp_call2 (φ1 := IsD (SF w [b11_13, b9_9, b6_2]) (V.d ((hvV la)))) (φ2 := IsD (SF w [b11_13, b9_9, b6_2]) (V.d ((hvV la)))) ent14 (((hlc rfl).undE hg).dat (rdV_in (x := (hvV la)) ht_v42_9 D_cn42_9 D_ci42_9 : Rd W23 (SF w [b11_13, b9_9, b6_2]) (V.d ((hvV la))) _) sub_all) (((hlc rfl).undE hg).dat (rdV_in (x := (hvV la)) ht_v47_13 D_cn47_13 D_ci47_13 : Rd W23 (SF w [b11_13, b9_9, b6_2]) (V.d ((hvV la))) _) sub_all) (fun g u1 u2 W hk hgk h1 h2 => refSame_all _ ((hvV la)) ((hvV la)) (Nat.le_refl _) (by first | omega | exact Nat.le_of_ble_eq_true (by kernel_rfl)) W _ _ _ h1 h2)) ?_
 refine .i (sp_and (hlc rfl) ((hlc rfl).weak fun hq => hq)) ?_
 refine .al rfl ?_
 refine .dn fun a25 g W25 y25 zz25 hk hg hV hR hP => ?_
 obtain ⟨e21, -, -, -, -, -, -, -, -, -⟩ := hV
 replace e0 := ft hR e0
 replace e1 := ft hR e1
 replace e9 := ft hR e9
 replace e10 := ft hR e10
 replace e12 := ft hR e12
 replace e13 := ft hR e13
 replace e14 := ft hR e14
 replace e16 := ft hR e16
 replace e17 := ft hR e17
 replace e18 := ft hR e18
 replace e19 := ft hR e19
 replace e20 := ft hR e20
 replace D_va := D_va.ext hk
 replace D_vb := D_vb.ext hk
 replace D_cn42_9 := D_cn42_9.ext hk
 replace D_ci42_9 := D_ci42_9.ext hk
 replace D_cn47_13 := D_cn47_13.ext hk
 replace D_ci47_13 := D_ci47_13.ext hk
 replace D_v13_17 := D_v13_17.ext hk
 replace D_v15_19 := D_v15_19.ext hk
 replace e21 := e21.q
 replace own_b6_2 := own_b6_2.ext hk
 replace own_b9_9 := own_b9_9.ext hk
 replace own_b11_13 := own_b11_13.ext hk
 replace kw := kw.x hk
 replace hmk := hmk.trans hk
 clear hR hk hg hP
 refine zn (hK24 _ _ ?_)
 refine zq fun K26 hK26 => ?_
 have hml := rdHss_len D_v13_17
 have A_sp : WRow W25 W14.heap.size 2 (hsOV (x)).length (.slice v13_17a ((hsOV (x)).length) v13_17c) := by have h := wrow_of (ds := List.map Hs.d (hsOV (x))) (n := W14.heap.size) D_v13_17 (fun b o h => ⟨h.1, h.2.1⟩) (fun d hd => by obtain ⟨q, -, rfl⟩ := List.mem_map.1 hd; exact width_Hs q) (by decide); rwa [List.length_map] at h
 refine wp_reg (fun k => k < W14.heap.size) (Ψ := fun W => WRow W W14.heap.size 2 (hsOV (x)).length (.slice v13_17a ((hsOV (x)).length) v13_17c)) mixed y25 zz25 (fun W W' k h => h.ext k) A_sp ?_
 refine .mb rfl e13 ?_
 refine .callL1 (φ1 := Is (.slice v13_17a ((hsOV (x)).length) v13_17c)) (φ := Any) (Ψ' := Tr) ent15 (hlc rfl) st_any st_tr (fun g u1 W hk hg h1 hP => by have h1 : u1 = _ := h1; subst h1; exact (spoil_ok W14.heap.size ((hsOV (x)).length) hml _ _ W hP).mono fun e W' ⟨v, h2, h3, _⟩ => ⟨v, h2, h3, trivial, trivial⟩) ?_
 refine .dn fun a28 g W28 y28 zz28 hk hg hV hR hP => ?_
 replace e0 := ft hR e0
 replace e1 := ft hR e1
 replace e9 := ft hR e9
 replace e10 := ft hR e10
 replace e12 := ft hR e12
 replace e14 := ft hR e14
 replace e16 := ft hR e16
 replace e17 := ft hR e17
 replace e18 := ft hR e18
 replace e19 := ft hR e19
 replace e20 := ft hR e20
 replace e21 := ft hR e21
 replace kw := keeps_below kw hk kwm.size
 replace hmk := keeps_below hmk hk (Nat.le_refl _)
 replace own_b9_9 := own_b9_9.keeps hk ltm_b9_9
 have D_va := K_va.ext hmk
 have D_vb := K_vb.ext hmk
 have D_cn42_9 := K_cn42_9.ext hmk
 have D_ci42_9 := K_ci42_9.ext hmk
 clear hR hk hg hV hP
 refine zn (hK26 _ _ ?_)
 refine zq fun K29 hK29 => ?_
 refine rg mixed y28 zz28 ?_
 refine .i (v := (.agg #[(.int .u8 ((hvV la).k)), (.int .i64 ((hvV la).n)), (.string ((hvV la).t)), (.slice cn42_9a (((hvV la).ns).length) cn42_9c), (.slice ci42_9a (((hvV la).xs).length) ci42_9c)])) (loA (hbs rfl e9) own_b9_9 trivial agg26 sz26 rfl rfl) ?_
 refine .dn fun a30 g W30 y30 zz30 hk hg hV hR hP => ?_
 obtain ⟨e81, -⟩ := hV
 replace e0 := ft hR e0
 replace e1 := ft hR e1
 replace e10 := ft hR e10
 replace e12 := ft hR e12
 replace e14 := ft hR e14
 replace e16 := ft hR e16
 replace e17 := ft hR e17
 replace e18 := ft hR e18
 replace e19 := ft hR e19
 replace e20 := ft hR e20
 replace e21 := ft hR e21
 replace D_va := D_va.ext hk
 replace D_vb := D_vb.ext hk
 replace D_cn42_9 := D_cn42_9.ext hk
 replace D_ci42_9 := D_ci42_9.ext hk
 replace e81 := e81.q
 replace own_b9_9 := own_b9_9.ext hk
 replace kw := kw.x hk
 clear hR hk hg hP
 have hm1 := rd_lenS D_cn42_9
 have hm2 := rd_len D_ci42_9
 have hdjo := djV_out (by assumption : DjV (.agg #[(.int .u8 ((hvV la).k)), (.int .i64 ((hvV la).n)), (.string ((hvV la).t)), (.slice cn42_9a (((hvV la).ns).length) cn42_9c), (.slice ci42_9a (((hvV la).xs).length) ci42_9c)]))
 have A_n : WRow W30 w.heap.size 1 ((hvV la).ns).length (.slice cn42_9a (((hvV la).ns).length) cn42_9c) := by have h := wrow_of (ds := List.map D.str ((hvV la).ns)) (n := w.heap.size) D_cn42_9 (fun b o h => ⟨h.1, h.2.1⟩) (fun d hd => by obtain ⟨q, -, rfl⟩ := List.mem_map.1 hd; rfl) (by decide); rwa [List.length_map] at h
 have A_i : LRow W30 w.heap.size ((hvV la).xs).length (.slice ci42_9a (((hvV la).xs).length) ci42_9c) := lrow_of D_ci42_9 (fun b o h => ⟨h.1, h.2.1⟩) (hvV_leaf la)
 refine tail_reg 1 (fun k => k < w.heap.size) (Ψ := fun W => WRow W w.heap.size 1 ((hvV la).ns).length (.slice cn42_9a (((hvV la).ns).length) cn42_9c) ∧ LRow W w.heap.size ((hvV la).xs).length (.slice ci42_9a (((hvV la).xs).length) ci42_9c)) y30 zz30 (fun W W' k h => ⟨h.1.ext k, h.2.ext k⟩) ⟨A_n, A_i⟩ rfl ?_
 refine .callL1 (φ1 := Is (.agg #[(.int .u8 ((hvV la).k)), (.int .i64 ((hvV la).n)), (.string ((hvV la).t)), (.slice cn42_9a (((hvV la).ns).length) cn42_9c), (.slice ci42_9a (((hvV la).xs).length) ci42_9c)])) (φ := Any) (Ψ' := Tr) ent16 (hbs rfl e81) st_any st_tr (fun g u1 W hk hg h1 hP => by have h1 : u1 = _ := h1; subst h1; exact (spoilV_ok w.heap.size _ _ hm1 hm2 _ _ _ _ _ _ _ W hP.1 hP.2 hdjo).mono fun e W' ⟨v, h2, h3, _⟩ => ⟨v, h2, h3, trivial, trivial⟩) ?_
 refine .dn fun a32 g W32 y32 zz32 hk hg hV hR hP => ?_
 refine tail_nil ?_
 show runTail _ _ _ _ _ _
 replace e0 := ft hR e0
 replace e1 := ft hR e1
 replace e10 := ft hR e10
 replace e12 := ft hR e12
 replace e14 := ft hR e14
 replace e16 := ft hR e16
 replace e17 := ft hR e17
 replace e18 := ft hR e18
 replace e19 := ft hR e19
 replace e20 := ft hR e20
 replace e21 := ft hR e21
 replace kw := keeps_below kw hk (Nat.le_refl _)
 have D_va := (rd_arg ha).ext kw
 have D_vb := (rd_arg hb).ext kw
 clear hR hk hg hV hP
 refine zn (hK29 _ _ ?_)
 refine zq fun K33 hK33 => ?_
 refine rg mixed y32 zz32 ?_
 refine .mb rfl e21 ?_
 refine .i (sp_move (hlc rfl)) ?_
 refine .em rfl (hlc rfl) rfl e10 ?_
 refine .em rfl (hlc rfl) rfl e12 ?_
 refine .e rfl (hlc rfl) (fun hg => sp_eql ((hlc rfl).undE hg) ((hlc rfl).undE hg)) ?_
 refine .i (sp_and (hlc rfl) ((hlc rfl).weak fun hq => hq)) ?_
 refine .i (sp_move (hlc rfl)) ?_
 refine .em rfl (hlc rfl) rfl e14 ?_
 refine .em rfl (hlc rfl) rfl e16 ?_
 refine .e rfl (hlc rfl) (fun hg => sp_eql ((hlc rfl).undE hg) ((hlc rfl).undE hg)) ?_
 refine .i (sp_and (hlc rfl) ((hlc rfl).weak fun hq => hq)) ?_
 refine .i (sp_move (hlc rfl)) ?_
 refine .em rfl (hlc rfl) rfl e17 ?_
 refine .em rfl (hlc rfl) rfl e19 ?_
 refine .e rfl (hlc rfl) (fun hg => sp_sEql ((hlc rfl).undE hg) ((hlc rfl).undE hg)) ?_
 refine .i (sp_and (hlc rfl) ((hlc rfl).weak fun hq => hq)) ?_
 refine .i (sp_move (hlc rfl)) ?_
 refine .em rfl (hlc rfl) rfl e18 ?_
 refine .em rfl (hlc rfl) rfl e20 ?_
 refine .e rfl (hlc rfl) (fun hg => sp_bEql Tryz.underlying4 ((hlc rfl).undE hg) ((hlc rfl).undE hg)) ?_
 refine .i (sp_and (hlc rfl) ((hlc rfl).weak fun hq => hq)) ?_
 refine .i (sp_move (hlc rfl)) ?_
 refine .em rfl (hlc rfl) rfl e0 ?_
 refine .e (v := (.bool (mayH la))) rfl (hlc rfl) (fun hg => sp_call1 (φ1 := IsD (SA w S []) (hssD (la))) ent17 (((hlc rfl).undE hg).dat D_va sub_all) (fun g u1 W hk hgk h1 => MayHashes_ok (la) W _ _ h1)) ?_
 refine .em rfl (hlc rfl) rfl e0 ?_
 refine .e (v := (.bool (mayH la))) rfl (hlc rfl) (fun hg => sp_call1 (φ1 := IsD (SA w S []) (hssD (la))) ent18 (((hlc rfl).undE hg).dat D_va sub_all) (fun g u1 W hk hgk h1 => MayHashes21_ok (la) W _ _ h1)) ?_
 refine .e rfl (hlc rfl) (fun hg => sp_bEql Tryz.underlying4 ((hlc rfl).undE hg) ((hlc rfl).undE hg)) ?_
 refine .i (sp_and (hlc rfl) ((hlc rfl).weak fun hq => hq)) ?_
 refine .i (sp_move (hlc rfl)) ?_
 refine .em rfl (hlc rfl) rfl e0 ?_
 refine .em rfl (hlc rfl) rfl e1 ?_
 refine .e (v := (.bool (sameH la lb))) rfl (hlc rfl) (fun hg => sp_call2 (φ1 := IsD (SA w S []) (hssD (la))) (φ2 := IsD (SA w S []) (hssD (lb))) ent19 (((hlc rfl).undE hg).dat D_va sub_all) (((hlc rfl).undE hg).dat D_vb sub_all) (fun g u1 u2 W hk hgk h1 h2 => sameHs_ok (la) (lb) W _ _ _ h1 h2)) ?_
 refine .em rfl (hlc rfl) rfl e0 ?_
 refine .em rfl (hlc rfl) rfl e1 ?_
 refine .e (v := (.bool (sameH la lb))) rfl (hlc rfl) (fun hg => sp_call2 (φ1 := IsD (SA w S []) (hssD (la))) (φ2 := IsD (SA w S []) (hssD (lb))) ent13 (((hlc rfl).undE hg).dat D_va sub_all) (((hlc rfl).undE hg).dat D_vb sub_all) (fun g u1 u2 W hk hgk h1 h2 => refSameHs_ok (la) (lb) W _ _ _ h1 h2)) ?_
 refine .e rfl (hlc rfl) (fun hg => sp_bEql Tryz.underlying4 ((hlc rfl).undE hg) ((hlc rfl).undE hg)) ?_
 refine .i (sp_and (hlc rfl) ((hlc rfl).weak fun hq => hq)) ?_
 refine .i (sp_move (hlc rfl)) ?_
 refine .e (v := (.bool (true))) rfl (hlc rfl) (fun hg => sp_call0  ent6  (fun g  W hk hgk  => awakeR_ok W)) ?_
 refine .i (sp_and (hlc rfl) ((hlc rfl).weak fun hq => hq)) ?_
 refine .al rfl ?_
 refine .dn fun a34 g W34 y34 zz34 hk hg hV hR hP => ?_
 obtain ⟨e8, -, -, -, -, -, -, -, -, -, -, -, -, -, -, -, -, -, -, -, -, -, -, -, -, -, -, -, -, -, -, -, -, -, -, -, -, -, -, -, -, -⟩ := hV
 replace D_va := D_va.ext hk
 replace D_vb := D_vb.ext hk
 replace e8 := e8.q
 replace kw := kw.x hk
 clear hR hk hg hP
 refine zn (hK33 _ _ ?_)
 refine wp_ret ?_
 refine ret1 rfl zz34 e8 ⟨_, rfl, kw, ?_⟩
 refine congrArg Value.bool ?_
 rw [(sameH_iff _ _).2 rfl]
 simp [beq_refl]
end Go.Proofs.YtnobijngkpflcaaGreat
namespace Go.Proofs.YtnobijngkpflcaaGreat
open Go.Eng Go.ChangeShapes Go.WideShapes Go.ChangeAt Go.RowKit
theorem Tryz.own : ownKnob Tryz.prog.godebug = none := by kernel_rfl
theorem Tryz.laidOut : laidOutB Tryz.prog = true := by kernel_rfl
theorem vt : VT Tryz.prog 26 5 2 9 23 24 := ⟨by kernel_rfl, Tryz.underlying5, Tryz.underlying2, Tryz.underlying9, Tryz.underlying23, Tryz.underlying24, by kernel_rfl, by kernel_rfl⟩
theorem hst : HsT Tryz.prog 22 43 9 := ⟨Tryz.underlying22, by kernel_rfl, Tryz.underlying9, by kernel_rfl⟩
set_option maxRecDepth 100000 in
theorem RecordHashes_lifted (os : Os) (started : os.Started) (H : Type) (enc : TypeId × Value → H) :
    ReturnsInHanded {} Tryz.checked os 3 .any (Rows.recordHashesSpec.pre6 enc Tryz.prog Tryz.f3 Rows.recordHashesRow.domain false) (Rows.recordHashesSpec.post enc Tryz.prog Tryz.f3 false true false false) := by
  refine returnsInHanded_of_change (C := Tryz.checked) Tryz.own started (by kernel_rfl) Tryz.func3
    (ChangeSpec.witness6 (enc := enc) (C := Tryz.checked) false ⟨#[], #[(.slice none 0 0), (.slice none 0 0), .agg #[(.int .u8 (0)), (.int .i64 (0)), (.string (⟨#[]⟩)), (.slice none 0 0), (.slice none 0 0)], (.string (⟨#[]⟩))], []⟩ 8 (by kernel_rfl) (by kernel_rfl) (by kernel_rfl) (by kernel_rfl)) ?_
  intro W base args ds gs before hval0 hW hcnd _
  have hval : ∀ (j : Nat) t v, Tryz.f3.params[j]? = some t → args[j]? = some v → Value.okWide Tryz.prog W .any base t v := hval0
  have hW' := hW
  obtain ⟨p, q, hA0, hV, rfl, hfz, hnd⟩ := hW
  have hA : DataW.TrodAll enc Tryz.prog W 0 (fun _ => true) true Tryz.f3.params.toList args.toList ds p := hA0
  rw [Tryz.params3] at hA hval
  obtain ⟨v0, v1, v2, v3, d0, d1, d2, d3, p0, p1, p2, p3, rfl, rfl, rfl, h0, h1, h2, h3⟩ := trodAll_four hA
  obtain ⟨rfl, rfl⟩ := trodVars_none hV
  obtain ⟨x0, r0⟩ := arg_Hss hst (ts := [22, 43, 9]) (by kernel_rfl) (by decide) Tryz.underlying22 (hval 0 22 v0 rfl rfl) h0
  obtain ⟨x1, r1⟩ := arg_Hss hst (ts := [22, 43, 9]) (by kernel_rfl) (by decide) Tryz.underlying22 (hval 1 22 v1 rfl rfl) h1
  obtain ⟨x2, r2⟩ := arg_V vt (ts := [26, 5, 2, 9, 23, 24]) (by kernel_rfl) (by decide) Tryz.underlying26 (hval 2 26 v2 rfl rfl) h2
  obtain ⟨s3, rfl, rfl, rfl, w3⟩ := Go.ChangeMaps.open_string Tryz.underlying9 (hval 3 9 v3 rfl rfl) h3
  refine (RecordHashes_ok x0 x1 x2 s3 w3 W Univ v0 v1 v2 r0 r1 r2).mono fun e W' ⟨v, he, hk, hv⟩ => ?_
  subst hv
  exact ⟨_, he, law_post Tryz.laidOut (of_decide_eq_true (by kernel_rfl)) rfl (tb := 4) (by kernel_rfl) Tryz.underlying4 rfl hW' hk⟩
theorem recordHashes_holds : Rows.RecordHashesSaid :=
  OpenClaim.holds_of_wide 3 Tryz.f3 rfl rfl rfl rfl rfl rfl rfl ⟨rfl, rfl, rfl, rfl, rfl⟩ rfl rfl rfl rfl rfl (by kernel_rfl) Tryz.func3 (by kernel_rfl)
    (of_decide_eq_true (by kernel_rfl)) (by unfold Func.isWrapper; first | (rw [if_pos (by decide +kernel)]; kernel_rfl) | (rw [if_neg (by decide +kernel)]; exact ⟨rfl, rfl⟩))
    (fun os started H enc _ => RecordHashes_lifted os started H enc)
end Go.Proofs.YtnobijngkpflcaaGreat
