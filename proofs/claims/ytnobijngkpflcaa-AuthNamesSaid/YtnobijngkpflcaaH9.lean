import Derived.Test.YtnobijngkpflcaaH8
namespace Go.Proofs.Ytnobijngkpflcaa
open Go.Eng
set_option maxRecDepth 100000 in
theorem awakeA_ok (w : World) : Calls Try.prog 14 #[] w (Ret w fun u _ => u = .bool true) := by
  refine enter Try.func14 rfl Try.ntmps14 (lbr rfl) fun a0 y0 zz0 harg => ?_
  have kw := Keeps.refl All w
  clear harg
  refine wp_seq_k fun K1 hK1 => ?_
  refine rg mixed y0 zz0 ?_
  refine .i (sp_assign Has.cst) ?_
  refine .done ⟨by kernel_rfl, fun a2 g W2 y2 zz2 hk hg hV hR hP => ?_⟩
  obtain ⟨-, -⟩ := hV
  replace kw := kw.x hk
  clear hR hk hg hP
  refine tail_nil (hK1 _ _ ?_)
  refine wp_seq_k fun K3 hK3 => ?_
  refine rg mixed y2 zz2 ?_
  refine .i (v := (.string (ofBytes (List.replicate (lit 64) (97 : Int))))) (sp_call1 (φ1 := Is (.int .u8 (97))) ent15 Has.cst (fun g u1 W hk hgk h1 => by have h1 : u1 = _ := h1; subst u1; exact id_ok 97 W)) ?_
  refine .i (sp_assign (hlc rfl)) ?_
  refine .done ⟨by kernel_rfl, fun a4 g W4 y4 zz4 hk hg hV hR hP => ?_⟩
  obtain ⟨e1, -, -⟩ := hV
  replace e1 := e1.q
  replace kw := kw.x hk
  clear hR hk hg hP
  refine tail_nil (hK3 _ _ ?_)
  refine wp_seq_k fun K5 hK5 => ?_
  refine rg mixed y4 zz4 ?_
  refine .i (sp_move (hbs rfl e1)) ?_
  refine .da (X := SF w []) (e := strsD ([ofBytes (List.replicate (lit 64) (97 : Int))])) (sp_bsl (ds := [D.str (ofBytes (List.replicate (lit 64) (97 : Int)))]) Try.underlying23 sz9 z9 (lbr rfl) (lbr rfl) ⟨rfl, ((hlc rfl).str (idb _)), trivial⟩ rfl (by simp [width]) (fr_sf kw in_nil)) ?_
  refine .da (X := Fr W4) (e := V.d (objV 1 ([ofBytes (List.replicate (lit 64) (97 : Int))]))) (sp_call2 (φ1 := Is (.int .i64 (1))) (φ2 := IsD (SF w []) (strsD ([ofBytes (List.replicate (lit 64) (97 : Int))]))) ent17 Has.cst (hlc rfl) (fun g u1 u2 W hk hgk h1 h2 => by have h1 : u1 = _ := h1; subst u1; exact (object_ok (1) ([ofBytes (List.replicate (lit 64) (97 : Int))]) (by simp) W _ _ h2).mono (ret_fr hk hgk))) ?_
  refine .op (φ := IsT (IsD (Fr W4) (Au.d (ofAV (objV 1 ([ofBytes (List.replicate (lit 64) (97 : Int))]))))) (Is (.int .i64 (ofAE (objV 1 ([ofBytes (List.replicate (lit 64) (97 : Int))])))))) (st_t (st_d sub_all) (st_is _)) (sp_call1 (φ1 := IsD (Fr W4) (V.d (objV 1 ([ofBytes (List.replicate (lit 64) (97 : Int))])))) ent16 (hlc rfl) (fun g u1 W hk hgk h1 => (authOf_ok (objV 1 ([ofBytes (List.replicate (lit 64) (97 : Int))])) (Nat.le_of_ble_eq_true (by kernel_rfl)) W _ _ (fun b o h => h.1.2) h1).mono (fun _ _ ⟨v, h1, h2, r1, h3, h4⟩ => ⟨v, h1, h2, r1, _, h3, fresh_d hk hgk h4, rfl⟩))) ?_
  refine .op (φ := IsT (IsD (Fr W4) (Au.d (ofAV (objV 1 ([ofBytes (List.replicate (lit 64) (97 : Int))]))))) (Is (.int .i64 (ofAE (objV 1 ([ofBytes (List.replicate (lit 64) (97 : Int))])))))) (st_t (st_d sub_all) (st_is _)) (sp_move (hlc rfl)) ?_
  refine .da (X := Fr W4) (e := Au.d (ofAV (objV 1 ([ofBytes (List.replicate (lit 64) (97 : Int))])))) (sp_ext2 (hlc rfl) rfl) ?_
  refine .i (v := (.int .i64 (ofAE (objV 1 ([ofBytes (List.replicate (lit 64) (97 : Int))]))))) (sp_ext2' (hlc rfl) rfl) ?_
  refine .alloc z27 ?_
  refine .done ⟨by kernel_rfl, fun a6 g W6 y6 zz6 hk hg hV hR hP => ?_⟩
  obtain ⟨⟨b2_6, e2, hb2, own_b2_6⟩, e19, e18, -, -, -, -, -, -⟩ := hV
  have lo_b2_6 : w.heap.size ≤ b2_6 := Nat.le_trans kw.size (hg.lo _ _ hb2)
  have own_b2_6 : Own W6 b2_6 [(.int .i64 (0)), (.slice none 0 0)] 27 := own_b2_6
  replace e1 := (hR 1 rfl).trans e1
  obtain ⟨v18_6, ev⟩ : ∃ v, sl a6 18 = v := ⟨_, rfl⟩
  rw [ev] at e18
  have D_v18_6 : Rd W6 (SF w [b2_6]) (Au.d (ofAV (objV 1 ([ofBytes (List.replicate (lit 64) (97 : Int))])))) v18_6 := fr_end (M := []) e18 kw [b2_6] (in_cons ⟨_, hb2⟩ in_nil) in_nil
  replace e18 := ev; clear ev
  obtain ⟨v18_6_1a, v18_6_1c, ev, D_v18_6_1⟩ := rdAu_out D_v18_6
  subst ev; clear D_v18_6
  replace e19 := e19.q
  replace kw := kw.x hk
  clear hR hk hg hP hb2
  refine tail_store (b := b2_6) (o := 0) (v := (.agg #[(.int .i64 ((ofAV (objV 1 ([ofBytes (List.replicate (lit 64) (97 : Int))]))).th)), (.slice v18_6_1a (((ofAV (objV 1 ([ofBytes (List.replicate (lit 64) (97 : Int))]))).ids).length) v18_6_1c)])) e2 e18 sz27 rfl own_b2_6 (lbr rfl) (all_cons rfl (all_cons rfl all_nil)) (fun W7 hs own_b2_6 => ?_)
  have own_b2_6 : Own W7 b2_6 [(.int .i64 ((ofAV (objV 1 ([ofBytes (List.replicate (lit 64) (97 : Int))]))).th)), (.slice v18_6_1a (((ofAV (objV 1 ([ofBytes (List.replicate (lit 64) (97 : Int))]))).ids).length) v18_6_1c)] 27 := own_b2_6
  replace D_v18_6_1 := sf_store D_v18_6_1 hs (by simp)
  replace kw := keeps_store kw hs lo_b2_6
  clear hs
  refine tail_assign (v := (.int .i64 (ofAE (objV 1 ([ofBytes (List.replicate (lit 64) (97 : Int))]))))) e19 (by rw [y6]; exact Nat.le_of_ble_eq_true rfl) (fun a8 y8 zz8 e3 hr => ?_)
  replace y8 := y8.trans y6; replace zz8 := zz8.trans zz6
  replace e1 := (hr 1 (by decide)).trans e1
  replace e2 := (hr 2 (by decide)).trans e2
  replace e18 := (hr 18 (by decide)).trans e18
  replace e19 := (hr 19 (by decide)).trans e19
  clear hr
  refine tail_nil (hK5 _ _ ?_)
  refine wp_seq_k fun K9 hK9 => ?_
  refine rg mixed y8 zz8 ?_
  refine .i (sp_move (hbs rfl e1)) ?_
  refine .da (X := SF w [b2_6]) (e := strsD ([ofBytes (List.replicate (lit 64) (97 : Int))])) (sp_bsl (ds := [D.str (ofBytes (List.replicate (lit 64) (97 : Int)))]) Try.underlying23 sz9 z9 (lbr rfl) (lbr rfl) ⟨rfl, ((hlc rfl).str (idb _)), trivial⟩ rfl (by simp [width]) (fr_sf kw (in_cons own_b2_6.lt in_nil))) ?_
  refine .da (X := Fr W7) (e := V.d (objV 2 ([ofBytes (List.replicate (lit 64) (97 : Int))]))) (sp_call2 (φ1 := Is (.int .i64 (2))) (φ2 := IsD (SF w [b2_6]) (strsD ([ofBytes (List.replicate (lit 64) (97 : Int))]))) ent17 Has.cst (hlc rfl) (fun g u1 u2 W hk hgk h1 h2 => by have h1 : u1 = _ := h1; subst u1; exact (object_ok (2) ([ofBytes (List.replicate (lit 64) (97 : Int))]) (by simp) W _ _ h2).mono (ret_fr hk hgk))) ?_
  refine .op (φ := IsT (IsD (Fr W7) (Au.d (ofAV (objV 2 ([ofBytes (List.replicate (lit 64) (97 : Int))]))))) (Is (.int .i64 (ofAE (objV 2 ([ofBytes (List.replicate (lit 64) (97 : Int))])))))) (st_t (st_d sub_all) (st_is _)) (sp_call1 (φ1 := IsD (Fr W7) (V.d (objV 2 ([ofBytes (List.replicate (lit 64) (97 : Int))])))) ent16 (hlc rfl) (fun g u1 W hk hgk h1 => (authOf_ok (objV 2 ([ofBytes (List.replicate (lit 64) (97 : Int))])) (Nat.le_of_ble_eq_true (by kernel_rfl)) W _ _ (fun b o h => h.1.2) h1).mono (fun _ _ ⟨v, h1, h2, r1, h3, h4⟩ => ⟨v, h1, h2, r1, _, h3, fresh_d hk hgk h4, rfl⟩))) ?_
  refine .op (φ := IsT (IsD (Fr W7) (Au.d (ofAV (objV 2 ([ofBytes (List.replicate (lit 64) (97 : Int))]))))) (Is (.int .i64 (ofAE (objV 2 ([ofBytes (List.replicate (lit 64) (97 : Int))])))))) (st_t (st_d sub_all) (st_is _)) (sp_move (hlc rfl)) ?_
  refine .da (X := Fr W7) (e := Au.d (ofAV (objV 2 ([ofBytes (List.replicate (lit 64) (97 : Int))])))) (sp_ext2 (hlc rfl) rfl) ?_
  refine .i (v := (.int .i64 (ofAE (objV 2 ([ofBytes (List.replicate (lit 64) (97 : Int))]))))) (sp_ext2' (hlc rfl) rfl) ?_
  refine .alloc z27 ?_
  refine .done ⟨by kernel_rfl, fun a10 g W10 y10 zz10 hk hg hV hR hP => ?_⟩
  obtain ⟨⟨b4_10, e4, hb4, own_b4_10⟩, e26, e25, -, -, -, -, -, -⟩ := hV
  have lo_b4_10 : w.heap.size ≤ b4_10 := Nat.le_trans kw.size (hg.lo _ _ hb4)
  have ne_b2_6_b4_10 : b2_6 ≠ b4_10 := Nat.ne_of_lt (Nat.lt_of_lt_of_le own_b2_6.lt (hg.lo _ _ hb4))
  have own_b4_10 : Own W10 b4_10 [(.int .i64 (0)), (.slice none 0 0)] 27 := own_b4_10
  replace e1 := (hR 1 rfl).trans e1
  replace e2 := (hR 2 rfl).trans e2
  replace e3 := (hR 3 rfl).trans e3
  replace D_v18_6_1 := sf_more D_v18_6_1 hk [b4_10] (in_cons (hg.lo _ _ hb4) in_nil)
  obtain ⟨v25_10, ev⟩ : ∃ v, sl a10 25 = v := ⟨_, rfl⟩
  rw [ev] at e25
  have D_v25_10 : Rd W10 (SF w [b4_10, b2_6]) (Au.d (ofAV (objV 2 ([ofBytes (List.replicate (lit 64) (97 : Int))])))) v25_10 := fr_end (M := [b2_6]) e25 kw [b4_10] (in_cons ⟨_, hb4⟩ in_nil) (in_cons own_b2_6.lt in_nil)
  replace e25 := ev; clear ev
  obtain ⟨v25_10_1a, v25_10_1c, ev, D_v25_10_1⟩ := rdAu_out D_v25_10
  subst ev; clear D_v25_10
  replace e26 := e26.q
  replace own_b2_6 := own_b2_6.ext hk
  replace kw := kw.x hk
  clear hR hk hg hP hb4
  refine tail_store (b := b4_10) (o := 0) (v := (.agg #[(.int .i64 ((ofAV (objV 2 ([ofBytes (List.replicate (lit 64) (97 : Int))]))).th)), (.slice v25_10_1a (((ofAV (objV 2 ([ofBytes (List.replicate (lit 64) (97 : Int))]))).ids).length) v25_10_1c)])) e4 e25 sz27 rfl own_b4_10 (lbr rfl) (all_cons rfl (all_cons rfl all_nil)) (fun W11 hs own_b4_10 => ?_)
  have own_b4_10 : Own W11 b4_10 [(.int .i64 ((ofAV (objV 2 ([ofBytes (List.replicate (lit 64) (97 : Int))]))).th)), (.slice v25_10_1a (((ofAV (objV 2 ([ofBytes (List.replicate (lit 64) (97 : Int))]))).ids).length) v25_10_1c)] 27 := own_b4_10
  replace own_b2_6 := own_store own_b2_6 hs ne_b2_6_b4_10
  replace D_v18_6_1 := sf_store D_v18_6_1 hs (by simp)
  replace D_v25_10_1 := sf_store D_v25_10_1 hs (by simp)
  replace kw := keeps_store kw hs lo_b4_10
  clear hs
  refine tail_assign (v := (.int .i64 (ofAE (objV 2 ([ofBytes (List.replicate (lit 64) (97 : Int))]))))) e26 (by rw [y10]; exact Nat.le_of_ble_eq_true rfl) (fun a12 y12 zz12 e5 hr => ?_)
  replace y12 := y12.trans y10; replace zz12 := zz12.trans zz10
  replace e1 := (hr 1 (by decide)).trans e1
  replace e2 := (hr 2 (by decide)).trans e2
  replace e3 := (hr 3 (by decide)).trans e3
  replace e4 := (hr 4 (by decide)).trans e4
  replace e25 := (hr 25 (by decide)).trans e25
  replace e26 := (hr 26 (by decide)).trans e26
  clear hr
  refine tail_nil (hK9 _ _ ?_)
  refine wp_seq_k fun K13 hK13 => ?_
  refine rg mixed y12 zz12 ?_
  refine .i (sp_move (hbs rfl e1)) ?_
  refine .i (sp_move (hbs rfl e1)) ?_
  refine .da (X := SF w [b4_10, b2_6]) (e := strsD ([ofBytes (List.replicate (lit 64) (97 : Int)), ofBytes (List.replicate (lit 64) (97 : Int))])) (sp_bsl (ds := [D.str (ofBytes (List.replicate (lit 64) (97 : Int))), D.str (ofBytes (List.replicate (lit 64) (97 : Int)))]) Try.underlying23 sz9 z9 (lbr rfl) (lbr rfl) ⟨rfl, ((hlc rfl).str (idb _)), ⟨rfl, ((hlc rfl).str (idb _)), trivial⟩⟩ rfl (by simp [width]) (fr_sf kw (in_cons own_b4_10.lt (in_cons own_b2_6.lt in_nil)))) ?_
  refine .da (X := Fr W11) (e := V.d (objV 1 ([ofBytes (List.replicate (lit 64) (97 : Int)), ofBytes (List.replicate (lit 64) (97 : Int))]))) (sp_call2 (φ1 := Is (.int .i64 (1))) (φ2 := IsD (SF w [b4_10, b2_6]) (strsD ([ofBytes (List.replicate (lit 64) (97 : Int)), ofBytes (List.replicate (lit 64) (97 : Int))]))) ent17 Has.cst (hlc rfl) (fun g u1 u2 W hk hgk h1 h2 => by have h1 : u1 = _ := h1; subst u1; exact (object_ok (1) ([ofBytes (List.replicate (lit 64) (97 : Int)), ofBytes (List.replicate (lit 64) (97 : Int))]) (by simp) W _ _ h2).mono (ret_fr hk hgk))) ?_
  refine .op (φ := IsT (IsD (Fr W11) (Au.d (ofAV (objV 1 ([ofBytes (List.replicate (lit 64) (97 : Int)), ofBytes (List.replicate (lit 64) (97 : Int))]))))) (Is (.int .i64 (ofAE (objV 1 ([ofBytes (List.replicate (lit 64) (97 : Int)), ofBytes (List.replicate (lit 64) (97 : Int))])))))) (st_t (st_d sub_all) (st_is _)) (sp_call1 (φ1 := IsD (Fr W11) (V.d (objV 1 ([ofBytes (List.replicate (lit 64) (97 : Int)), ofBytes (List.replicate (lit 64) (97 : Int))])))) ent16 (hlc rfl) (fun g u1 W hk hgk h1 => (authOf_ok (objV 1 ([ofBytes (List.replicate (lit 64) (97 : Int)), ofBytes (List.replicate (lit 64) (97 : Int))])) (Nat.le_of_ble_eq_true (by kernel_rfl)) W _ _ (fun b o h => h.1.2) h1).mono (fun _ _ ⟨v, h1, h2, r1, h3, h4⟩ => ⟨v, h1, h2, r1, _, h3, fresh_d hk hgk h4, rfl⟩))) ?_
  refine .op (φ := IsT (IsD (Fr W11) (Au.d (ofAV (objV 1 ([ofBytes (List.replicate (lit 64) (97 : Int)), ofBytes (List.replicate (lit 64) (97 : Int))]))))) (Is (.int .i64 (ofAE (objV 1 ([ofBytes (List.replicate (lit 64) (97 : Int)), ofBytes (List.replicate (lit 64) (97 : Int))])))))) (st_t (st_d sub_all) (st_is _)) (sp_move (hlc rfl)) ?_
  refine .da (X := Fr W11) (e := Au.d (ofAV (objV 1 ([ofBytes (List.replicate (lit 64) (97 : Int)), ofBytes (List.replicate (lit 64) (97 : Int))])))) (sp_ext2 (hlc rfl) rfl) ?_
  refine .i (v := (.int .i64 (ofAE (objV 1 ([ofBytes (List.replicate (lit 64) (97 : Int)), ofBytes (List.replicate (lit 64) (97 : Int))]))))) (sp_ext2' (hlc rfl) rfl) ?_
  refine .alloc z27 ?_
  refine .done ⟨by kernel_rfl, fun a14 g W14 y14 zz14 hk hg hV hR hP => ?_⟩
  obtain ⟨⟨b6_14, e6, hb6, own_b6_14⟩, e34, e33, -, -, -, -, -, -, -⟩ := hV
  have lo_b6_14 : w.heap.size ≤ b6_14 := Nat.le_trans kw.size (hg.lo _ _ hb6)
  have ne_b2_6_b6_14 : b2_6 ≠ b6_14 := Nat.ne_of_lt (Nat.lt_of_lt_of_le own_b2_6.lt (hg.lo _ _ hb6))
  have ne_b4_10_b6_14 : b4_10 ≠ b6_14 := Nat.ne_of_lt (Nat.lt_of_lt_of_le own_b4_10.lt (hg.lo _ _ hb6))
  have own_b6_14 : Own W14 b6_14 [(.int .i64 (0)), (.slice none 0 0)] 27 := own_b6_14
  replace e1 := (hR 1 rfl).trans e1
  replace e2 := (hR 2 rfl).trans e2
  replace e3 := (hR 3 rfl).trans e3
  replace e5 := (hR 5 rfl).trans e5
  replace D_v18_6_1 := sf_more D_v18_6_1 hk [b6_14] (in_cons (hg.lo _ _ hb6) in_nil)
  obtain ⟨v33_14, ev⟩ : ∃ v, sl a14 33 = v := ⟨_, rfl⟩
  rw [ev] at e33
  have D_v33_14 : Rd W14 (SF w [b6_14, b4_10, b2_6]) (Au.d (ofAV (objV 1 ([ofBytes (List.replicate (lit 64) (97 : Int)), ofBytes (List.replicate (lit 64) (97 : Int))])))) v33_14 := fr_end (M := [b4_10, b2_6]) e33 kw [b6_14] (in_cons ⟨_, hb6⟩ in_nil) (in_cons own_b4_10.lt (in_cons own_b2_6.lt in_nil))
  replace e33 := ev; clear ev
  obtain ⟨v33_14_1a, v33_14_1c, ev, D_v33_14_1⟩ := rdAu_out D_v33_14
  subst ev; clear D_v33_14
  replace e34 := e34.q
  replace own_b2_6 := own_b2_6.ext hk
  replace own_b4_10 := own_b4_10.ext hk
  replace kw := kw.x hk
  clear hR hk hg hP hb6
  refine tail_store (b := b6_14) (o := 0) (v := (.agg #[(.int .i64 ((ofAV (objV 1 ([ofBytes (List.replicate (lit 64) (97 : Int)), ofBytes (List.replicate (lit 64) (97 : Int))]))).th)), (.slice v33_14_1a (((ofAV (objV 1 ([ofBytes (List.replicate (lit 64) (97 : Int)), ofBytes (List.replicate (lit 64) (97 : Int))]))).ids).length) v33_14_1c)])) e6 e33 sz27 rfl own_b6_14 (lbr rfl) (all_cons rfl (all_cons rfl all_nil)) (fun W15 hs own_b6_14 => ?_)
  have own_b6_14 : Own W15 b6_14 [(.int .i64 ((ofAV (objV 1 ([ofBytes (List.replicate (lit 64) (97 : Int)), ofBytes (List.replicate (lit 64) (97 : Int))]))).th)), (.slice v33_14_1a (((ofAV (objV 1 ([ofBytes (List.replicate (lit 64) (97 : Int)), ofBytes (List.replicate (lit 64) (97 : Int))]))).ids).length) v33_14_1c)] 27 := own_b6_14
  replace own_b2_6 := own_store own_b2_6 hs ne_b2_6_b6_14
  replace own_b4_10 := own_store own_b4_10 hs ne_b4_10_b6_14
  replace D_v18_6_1 := sf_store D_v18_6_1 hs (by simp)
  replace D_v33_14_1 := sf_store D_v33_14_1 hs (by simp)
  replace kw := keeps_store kw hs lo_b6_14
  clear hs
  refine tail_assign (v := (.int .i64 (ofAE (objV 1 ([ofBytes (List.replicate (lit 64) (97 : Int)), ofBytes (List.replicate (lit 64) (97 : Int))]))))) e34 (by rw [y14]; exact Nat.le_of_ble_eq_true rfl) (fun a16 y16 zz16 e7 hr => ?_)
  replace y16 := y16.trans y14; replace zz16 := zz16.trans zz14
  replace e1 := (hr 1 (by decide)).trans e1
  replace e2 := (hr 2 (by decide)).trans e2
  replace e3 := (hr 3 (by decide)).trans e3
  replace e5 := (hr 5 (by decide)).trans e5
  replace e6 := (hr 6 (by decide)).trans e6
  replace e33 := (hr 33 (by decide)).trans e33
  replace e34 := (hr 34 (by decide)).trans e34
  clear hr
  refine tail_nil (hK13 _ _ ?_)
  refine wp_seq_k fun K17 hK17 => ?_
  refine rg mixed y16 zz16 ?_
  refine .da (X := Fr W15) (e := V.d (objV 1 ([]))) (sp_call2 (φ1 := Is (.int .i64 (1))) (φ2 := IsD (SF w [b6_14, b4_10, b2_6]) (strsD ([]))) ent17 Has.cst (Has.cst.dat (rd_nil _ : Rd W15 (SF w [b6_14, b4_10, b2_6]) (strsD ([])) _) sub_all) (fun g u1 u2 W hk hgk h1 h2 => by have h1 : u1 = _ := h1; subst u1; exact (object_ok (1) ([]) (by simp) W _ _ h2).mono (ret_fr hk hgk))) ?_
  refine .op (φ := IsT (IsD (Fr W15) (Au.d (ofAV (objV 1 ([]))))) (Is (.int .i64 (ofAE (objV 1 ([])))))) (st_t (st_d sub_all) (st_is _)) (sp_call1 (φ1 := IsD (Fr W15) (V.d (objV 1 ([])))) ent16 (hlc rfl) (fun g u1 W hk hgk h1 => (authOf_ok (objV 1 ([])) (Nat.le_of_ble_eq_true (by kernel_rfl)) W _ _ (fun b o h => h.1.2) h1).mono (fun _ _ ⟨v, h1, h2, r1, h3, h4⟩ => ⟨v, h1, h2, r1, _, h3, fresh_d hk hgk h4, rfl⟩))) ?_
  refine .op (φ := IsT (IsD (Fr W15) (Au.d (ofAV (objV 1 ([]))))) (Is (.int .i64 (ofAE (objV 1 ([])))))) (st_t (st_d sub_all) (st_is _)) (sp_move (hlc rfl)) ?_
  refine .da (X := Fr W15) (e := Au.d (ofAV (objV 1 ([])))) (sp_ext2 (hlc rfl) rfl) ?_
  refine .i (v := (.int .i64 (ofAE (objV 1 ([]))))) (sp_ext2' (hlc rfl) rfl) ?_
  refine .alloc z27 ?_
  refine .done ⟨by kernel_rfl, fun a18 g W18 y18 zz18 hk hg hV hR hP => ?_⟩
  obtain ⟨⟨b8_18, e8, hb8, own_b8_18⟩, e39, e38, -, -, -, -⟩ := hV
  have lo_b8_18 : w.heap.size ≤ b8_18 := Nat.le_trans kw.size (hg.lo _ _ hb8)
  have ne_b2_6_b8_18 : b2_6 ≠ b8_18 := Nat.ne_of_lt (Nat.lt_of_lt_of_le own_b2_6.lt (hg.lo _ _ hb8))
  have ne_b4_10_b8_18 : b4_10 ≠ b8_18 := Nat.ne_of_lt (Nat.lt_of_lt_of_le own_b4_10.lt (hg.lo _ _ hb8))
  have ne_b6_14_b8_18 : b6_14 ≠ b8_18 := Nat.ne_of_lt (Nat.lt_of_lt_of_le own_b6_14.lt (hg.lo _ _ hb8))
  have own_b8_18 : Own W18 b8_18 [(.int .i64 (0)), (.slice none 0 0)] 27 := own_b8_18
  replace e1 := (hR 1 rfl).trans e1
  replace e2 := (hR 2 rfl).trans e2
  replace e3 := (hR 3 rfl).trans e3
  replace e5 := (hR 5 rfl).trans e5
  replace e7 := (hR 7 rfl).trans e7
  replace D_v18_6_1 := sf_more D_v18_6_1 hk [b8_18] (in_cons (hg.lo _ _ hb8) in_nil)
  obtain ⟨v38_18, ev⟩ : ∃ v, sl a18 38 = v := ⟨_, rfl⟩
  rw [ev] at e38
  have D_v38_18 : Rd W18 (SF w [b8_18, b6_14, b4_10, b2_6]) (Au.d (ofAV (objV 1 ([])))) v38_18 := fr_end (M := [b6_14, b4_10, b2_6]) e38 kw [b8_18] (in_cons ⟨_, hb8⟩ in_nil) (in_cons own_b6_14.lt (in_cons own_b4_10.lt (in_cons own_b2_6.lt in_nil)))
  replace e38 := ev; clear ev
  obtain ⟨v38_18_1a, v38_18_1c, ev, D_v38_18_1⟩ := rdAu_out D_v38_18
  subst ev; clear D_v38_18
  have e39 : sl a18 39 = (.int .i64 (ofAE (objV 1 ([])))) := e39
  replace own_b2_6 := own_b2_6.ext hk
  replace own_b4_10 := own_b4_10.ext hk
  replace own_b6_14 := own_b6_14.ext hk
  replace kw := kw.x hk
  clear hR hk hg hP hb8
  refine tail_store (b := b8_18) (o := 0) (v := (.agg #[(.int .i64 ((ofAV (objV 1 ([]))).th)), (.slice v38_18_1a (((ofAV (objV 1 ([]))).ids).length) v38_18_1c)])) e8 e38 sz27 rfl own_b8_18 (lbr rfl) (all_cons rfl (all_cons rfl all_nil)) (fun W19 hs own_b8_18 => ?_)
  have own_b8_18 : Own W19 b8_18 [(.int .i64 ((ofAV (objV 1 ([]))).th)), (.slice v38_18_1a (((ofAV (objV 1 ([]))).ids).length) v38_18_1c)] 27 := own_b8_18
  replace own_b2_6 := own_store own_b2_6 hs ne_b2_6_b8_18
  replace own_b4_10 := own_store own_b4_10 hs ne_b4_10_b8_18
  replace own_b6_14 := own_store own_b6_14 hs ne_b6_14_b8_18
  replace D_v18_6_1 := sf_store D_v18_6_1 hs (by simp)
  replace D_v38_18_1 := sf_store D_v38_18_1 hs (by simp)
  replace kw := keeps_store kw hs lo_b8_18
  clear hs
  refine tail_assign (v := (.int .i64 (ofAE (objV 1 ([]))))) e39 (by rw [y18]; exact Nat.le_of_ble_eq_true rfl) (fun a20 y20 zz20 e9 hr => ?_)
  replace y20 := y20.trans y18; replace zz20 := zz20.trans zz18
  replace e1 := (hr 1 (by decide)).trans e1
  replace e2 := (hr 2 (by decide)).trans e2
  replace e3 := (hr 3 (by decide)).trans e3
  replace e5 := (hr 5 (by decide)).trans e5
  replace e7 := (hr 7 (by decide)).trans e7
  replace e8 := (hr 8 (by decide)).trans e8
  replace e38 := (hr 38 (by decide)).trans e38
  replace e39 := (hr 39 (by decide)).trans e39
  clear hr
  refine tail_nil (hK17 _ _ ?_)
  refine wp_seq_k fun K21 hK21 => ?_
  refine rg mixed y20 zz20 ?_
  refine .i (sp_move (hbs rfl e1)) ?_
  refine .i (v := (.string ((ofBytes (List.replicate (lit 64) (97 : Int))).extract 0 63))) (sp_sliceHi (i := 63) Try.underlying9 (hlc rfl) Has.cst rfl (Nat.le_of_ble_eq_true (by kernel_rfl))) ?_
  refine .i (v := (.string (((ofBytes (List.replicate (lit 64) (97 : Int))).extract 0 63) ++ (⟨#[65]⟩ : ByteArray)))) (sp_sAdd (hlc rfl) Has.cst (Nat.le_of_ble_eq_true (by kernel_rfl))) ?_
  refine .da (X := SF w [b8_18, b6_14, b4_10, b2_6]) (e := strsD ([((ofBytes (List.replicate (lit 64) (97 : Int))).extract 0 63) ++ (⟨#[65]⟩ : ByteArray)])) (sp_bsl (ds := [D.str (((ofBytes (List.replicate (lit 64) (97 : Int))).extract 0 63) ++ (⟨#[65]⟩ : ByteArray))]) Try.underlying23 sz9 z9 (lbr rfl) (lbr rfl) ⟨rfl, ((hlc rfl).str (Nat.le_of_ble_eq_true (by kernel_rfl))), trivial⟩ rfl (by simp [width]) (fr_sf kw (in_cons own_b8_18.lt (in_cons own_b6_14.lt (in_cons own_b4_10.lt (in_cons own_b2_6.lt in_nil)))))) ?_
  refine .da (X := Fr W19) (e := V.d (objV 1 ([((ofBytes (List.replicate (lit 64) (97 : Int))).extract 0 63) ++ (⟨#[65]⟩ : ByteArray)]))) (sp_call2 (φ1 := Is (.int .i64 (1))) (φ2 := IsD (SF w [b8_18, b6_14, b4_10, b2_6]) (strsD ([((ofBytes (List.replicate (lit 64) (97 : Int))).extract 0 63) ++ (⟨#[65]⟩ : ByteArray)]))) ent17 Has.cst (hlc rfl) (fun g u1 u2 W hk hgk h1 h2 => by have h1 : u1 = _ := h1; subst u1; exact (object_ok (1) ([((ofBytes (List.replicate (lit 64) (97 : Int))).extract 0 63) ++ (⟨#[65]⟩ : ByteArray)]) (by simp) W _ _ h2).mono (ret_fr hk hgk))) ?_
  refine .op (φ := IsT (IsD (Fr W19) (Au.d (ofAV (objV 1 ([((ofBytes (List.replicate (lit 64) (97 : Int))).extract 0 63) ++ (⟨#[65]⟩ : ByteArray)]))))) (Is (.int .i64 (ofAE (objV 1 ([((ofBytes (List.replicate (lit 64) (97 : Int))).extract 0 63) ++ (⟨#[65]⟩ : ByteArray)])))))) (st_t (st_d sub_all) (st_is _)) (sp_call1 (φ1 := IsD (Fr W19) (V.d (objV 1 ([((ofBytes (List.replicate (lit 64) (97 : Int))).extract 0 63) ++ (⟨#[65]⟩ : ByteArray)])))) ent16 (hlc rfl) (fun g u1 W hk hgk h1 => (authOf_ok (objV 1 ([((ofBytes (List.replicate (lit 64) (97 : Int))).extract 0 63) ++ (⟨#[65]⟩ : ByteArray)])) (Nat.le_of_ble_eq_true (by kernel_rfl)) W _ _ (fun b o h => h.1.2) h1).mono (fun _ _ ⟨v, h1, h2, r1, h3, h4⟩ => ⟨v, h1, h2, r1, _, h3, fresh_d hk hgk h4, rfl⟩))) ?_
  refine .op (φ := IsT (IsD (Fr W19) (Au.d (ofAV (objV 1 ([((ofBytes (List.replicate (lit 64) (97 : Int))).extract 0 63) ++ (⟨#[65]⟩ : ByteArray)]))))) (Is (.int .i64 (ofAE (objV 1 ([((ofBytes (List.replicate (lit 64) (97 : Int))).extract 0 63) ++ (⟨#[65]⟩ : ByteArray)])))))) (st_t (st_d sub_all) (st_is _)) (sp_move (hlc rfl)) ?_
  refine .da (X := Fr W19) (e := Au.d (ofAV (objV 1 ([((ofBytes (List.replicate (lit 64) (97 : Int))).extract 0 63) ++ (⟨#[65]⟩ : ByteArray)])))) (sp_ext2 (hlc rfl) rfl) ?_
  refine .i (v := (.int .i64 (ofAE (objV 1 ([((ofBytes (List.replicate (lit 64) (97 : Int))).extract 0 63) ++ (⟨#[65]⟩ : ByteArray)]))))) (sp_ext2' (hlc rfl) rfl) ?_
  refine .alloc z27 ?_
  refine .done ⟨by kernel_rfl, fun a22 g W22 y22 zz22 hk hg hV hR hP => ?_⟩
  obtain ⟨⟨b10_22, e10, hb10, own_b10_22⟩, e48, e47, -, -, -, -, -, -, -, -⟩ := hV
  have lo_b10_22 : w.heap.size ≤ b10_22 := Nat.le_trans kw.size (hg.lo _ _ hb10)
  have ne_b2_6_b10_22 : b2_6 ≠ b10_22 := Nat.ne_of_lt (Nat.lt_of_lt_of_le own_b2_6.lt (hg.lo _ _ hb10))
  have ne_b4_10_b10_22 : b4_10 ≠ b10_22 := Nat.ne_of_lt (Nat.lt_of_lt_of_le own_b4_10.lt (hg.lo _ _ hb10))
  have ne_b6_14_b10_22 : b6_14 ≠ b10_22 := Nat.ne_of_lt (Nat.lt_of_lt_of_le own_b6_14.lt (hg.lo _ _ hb10))
  have ne_b8_18_b10_22 : b8_18 ≠ b10_22 := Nat.ne_of_lt (Nat.lt_of_lt_of_le own_b8_18.lt (hg.lo _ _ hb10))
  have own_b10_22 : Own W22 b10_22 [(.int .i64 (0)), (.slice none 0 0)] 27 := own_b10_22
  replace e1 := (hR 1 rfl).trans e1
  replace e2 := (hR 2 rfl).trans e2
  replace e3 := (hR 3 rfl).trans e3
  replace e5 := (hR 5 rfl).trans e5
  replace e7 := (hR 7 rfl).trans e7
  replace e9 := (hR 9 rfl).trans e9
  replace D_v18_6_1 := sf_more D_v18_6_1 hk [b10_22] (in_cons (hg.lo _ _ hb10) in_nil)
  obtain ⟨v47_22, ev⟩ : ∃ v, sl a22 47 = v := ⟨_, rfl⟩
  rw [ev] at e47
  have D_v47_22 : Rd W22 (SF w [b10_22, b8_18, b6_14, b4_10, b2_6]) (Au.d (ofAV (objV 1 ([((ofBytes (List.replicate (lit 64) (97 : Int))).extract 0 63) ++ (⟨#[65]⟩ : ByteArray)])))) v47_22 := fr_end (M := [b8_18, b6_14, b4_10, b2_6]) e47 kw [b10_22] (in_cons ⟨_, hb10⟩ in_nil) (in_cons own_b8_18.lt (in_cons own_b6_14.lt (in_cons own_b4_10.lt (in_cons own_b2_6.lt in_nil))))
  replace e47 := ev; clear ev
  obtain ⟨v47_22_1a, v47_22_1c, ev, D_v47_22_1⟩ := rdAu_out D_v47_22
  subst ev; clear D_v47_22
  replace e48 := e48.q
  replace own_b2_6 := own_b2_6.ext hk
  replace own_b4_10 := own_b4_10.ext hk
  replace own_b6_14 := own_b6_14.ext hk
  replace own_b8_18 := own_b8_18.ext hk
  replace kw := kw.x hk
  clear hR hk hg hP hb10
  refine tail_store (b := b10_22) (o := 0) (v := (.agg #[(.int .i64 ((ofAV (objV 1 ([((ofBytes (List.replicate (lit 64) (97 : Int))).extract 0 63) ++ (⟨#[65]⟩ : ByteArray)]))).th)), (.slice v47_22_1a (((ofAV (objV 1 ([((ofBytes (List.replicate (lit 64) (97 : Int))).extract 0 63) ++ (⟨#[65]⟩ : ByteArray)]))).ids).length) v47_22_1c)])) e10 e47 sz27 rfl own_b10_22 (lbr rfl) (all_cons rfl (all_cons rfl all_nil)) (fun W23 hs own_b10_22 => ?_)
  have own_b10_22 : Own W23 b10_22 [(.int .i64 ((ofAV (objV 1 ([((ofBytes (List.replicate (lit 64) (97 : Int))).extract 0 63) ++ (⟨#[65]⟩ : ByteArray)]))).th)), (.slice v47_22_1a (((ofAV (objV 1 ([((ofBytes (List.replicate (lit 64) (97 : Int))).extract 0 63) ++ (⟨#[65]⟩ : ByteArray)]))).ids).length) v47_22_1c)] 27 := own_b10_22
  replace own_b2_6 := own_store own_b2_6 hs ne_b2_6_b10_22
  replace own_b4_10 := own_store own_b4_10 hs ne_b4_10_b10_22
  replace own_b6_14 := own_store own_b6_14 hs ne_b6_14_b10_22
  replace own_b8_18 := own_store own_b8_18 hs ne_b8_18_b10_22
  replace D_v18_6_1 := sf_store D_v18_6_1 hs (by simp)
  replace D_v47_22_1 := sf_store D_v47_22_1 hs (by simp)
  replace kw := keeps_store kw hs lo_b10_22
  clear hs
  refine tail_assign (v := (.int .i64 (ofAE (objV 1 ([((ofBytes (List.replicate (lit 64) (97 : Int))).extract 0 63) ++ (⟨#[65]⟩ : ByteArray)]))))) e48 (by rw [y22]; exact Nat.le_of_ble_eq_true rfl) (fun a24 y24 zz24 e11 hr => ?_)
  replace y24 := y24.trans y22; replace zz24 := zz24.trans zz22
  replace e1 := (hr 1 (by decide)).trans e1
  replace e2 := (hr 2 (by decide)).trans e2
  replace e3 := (hr 3 (by decide)).trans e3
  replace e5 := (hr 5 (by decide)).trans e5
  replace e7 := (hr 7 (by decide)).trans e7
  replace e9 := (hr 9 (by decide)).trans e9
  replace e10 := (hr 10 (by decide)).trans e10
  replace e47 := (hr 47 (by decide)).trans e47
  replace e48 := (hr 48 (by decide)).trans e48
  clear hr
  refine tail_nil (hK21 _ _ ?_)
  refine wp_seq_k fun K25 hK25 => ?_
  refine rg mixed y24 zz24 ?_
  refine .i (sp_move (hbs rfl e3)) ?_
  refine .i (sp_eql (hlc rfl) Has.cst) ?_
  refine .i (sp_move (hlc rfl)) ?_
  refine .e (t := 51) (v := (.agg #[(.int .i64 ((ofAV (objV 1 ([ofBytes (List.replicate (lit 64) (97 : Int))]))).th)), (.slice v18_6_1a (((ofAV (objV 1 ([ofBytes (List.replicate (lit 64) (97 : Int))]))).ids).length) v18_6_1c)])) rfl (hlc rfl) (fun hg => loA (hbs rfl e2) own_b2_6 trivial agg27 sz27 rfl rfl) ?_
  refine .e (t := 51) rfl (hlc rfl) (fun hg => sp_move (hbs rfl e1)) ?_
  refine .opE (t := 51) (φ := IsD (SF w [b10_22, b8_18, b6_14, b4_10, b2_6]) (strsD ([ofBytes (List.replicate (lit 64) (97 : Int))]))) rfl (hlc rfl) (st_d sub_all) (fun hg => sp_bsl (ds := [D.str (ofBytes (List.replicate (lit 64) (97 : Int)))]) Try.underlying23 sz9 z9 (lbr rfl) (lbr rfl) ⟨rfl, (((hlc rfl).undE hg).str (idb _)), trivial⟩ rfl (by simp [width]) (fr_sf kw (in_cons own_b10_22.lt (in_cons own_b8_18.lt (in_cons own_b6_14.lt (in_cons own_b4_10.lt (in_cons own_b2_6.lt in_nil))))))) ?_
  refine .opE (t := 51) (φ := IsD (SF w [b10_22, b8_18, b6_14, b4_10, b2_6]) (Au.d (Au.mk (1) ([ofBytes (List.replicate (lit 64) (97 : Int))])))) rfl (hlc rfl) (st_d sub_all) (fun hg => sp_buildD (zd := [D.int .i64 0, strsD []]) (es := [(0, D.int .i64 (1)), (1, strsD ([ofBytes (List.replicate (lit 64) (97 : Int))]))]) Try.underlying27 z27 (pl27 Try.underlying27) ⟨rfl, Has.cst.int, ⟨rfl, ((hlc rfl).undE hg), trivial⟩⟩ zAu (by first | rfl | simp [plOf, width, width_V, hssD]) (by simp [fits, width, strsD, valsD, hssD, width_V]) rfl) ?_
  refine .e (t := 51) (v := (.bool (sameA (ofAV (objV 1 ([ofBytes (List.replicate (lit 64) (97 : Int))]))) (Au.mk (1) ([ofBytes (List.replicate (lit 64) (97 : Int))]))))) rfl (hlc rfl) (fun hg => sp_call2 (φ1 := IsD (SF w [b10_22, b8_18, b6_14, b4_10, b2_6]) (Au.d ((ofAV (objV 1 ([ofBytes (List.replicate (lit 64) (97 : Int))])))))) (φ2 := IsD (SF w [b10_22, b8_18, b6_14, b4_10, b2_6]) (Au.d (Au.mk (1) ([ofBytes (List.replicate (lit 64) (97 : Int))])))) ent20 (((hlc rfl).undE hg).dat (rdAu_mk D_v18_6_1 : Rd W23 (SF w [b10_22, b8_18, b6_14, b4_10, b2_6]) (Au.d ((ofAV (objV 1 ([ofBytes (List.replicate (lit 64) (97 : Int))]))))) _) sub_all) ((hlc rfl).undE hg) (fun g u1 u2 W hk hgk h1 h2 => refSameA_ok ((ofAV (objV 1 ([ofBytes (List.replicate (lit 64) (97 : Int))])))) (Au.mk (1) ([ofBytes (List.replicate (lit 64) (97 : Int))])) W _ _ _ h1 h2)) ?_
  refine .i (sp_and (hlc rfl) ((hlc rfl).weak fun hq => hq)) ?_
  refine .i (sp_move (hlc rfl)) ?_
  refine .e (t := 58) (v := (.agg #[(.int .i64 ((ofAV (objV 1 ([ofBytes (List.replicate (lit 64) (97 : Int))]))).th)), (.slice v18_6_1a (((ofAV (objV 1 ([ofBytes (List.replicate (lit 64) (97 : Int))]))).ids).length) v18_6_1c)])) rfl (hlc rfl) (fun hg => loA (hbs rfl e2) own_b2_6 trivial agg27 sz27 rfl rfl) ?_
  refine .e (t := 58) (v := (.bool (mayA (ofAV (objV 1 ([ofBytes (List.replicate (lit 64) (97 : Int))])))))) rfl (hlc rfl) (fun hg => sp_call1 (φ1 := IsD (SF w [b10_22, b8_18, b6_14, b4_10, b2_6]) (Au.d ((ofAV (objV 1 ([ofBytes (List.replicate (lit 64) (97 : Int))])))))) ent18 (((hlc rfl).undE hg).dat (rdAu_mk D_v18_6_1 : Rd W23 (SF w [b10_22, b8_18, b6_14, b4_10, b2_6]) (Au.d ((ofAV (objV 1 ([ofBytes (List.replicate (lit 64) (97 : Int))]))))) _) sub_all) (fun g u1 W hk hgk h1 => mayA_ok ((ofAV (objV 1 ([ofBytes (List.replicate (lit 64) (97 : Int))])))) W _ _ h1)) ?_
  refine .i (sp_and (hlc rfl) ((hlc rfl).weak fun hq => hq)) ?_
  refine .i (sp_move (hlc rfl)) ?_
  refine .e (t := 62) (v := (.agg #[(.int .i64 ((ofAV (objV 1 ([ofBytes (List.replicate (lit 64) (97 : Int))]))).th)), (.slice v18_6_1a (((ofAV (objV 1 ([ofBytes (List.replicate (lit 64) (97 : Int))]))).ids).length) v18_6_1c)])) rfl (hlc rfl) (fun hg => loA (hbs rfl e2) own_b2_6 trivial agg27 sz27 rfl rfl) ?_
  refine .e (t := 62) rfl (hlc rfl) (fun hg => sp_move (hbs rfl e1)) ?_
  refine .e (t := 62) (v := (.bool (hasA (ofAV (objV 1 ([ofBytes (List.replicate (lit 64) (97 : Int))]))) (ofBytes (List.replicate (lit 64) (97 : Int)))))) rfl (hlc rfl) (fun hg => sp_call2 (φ1 := IsD (SF w [b10_22, b8_18, b6_14, b4_10, b2_6]) (Au.d ((ofAV (objV 1 ([ofBytes (List.replicate (lit 64) (97 : Int))])))))) (φ2 := Is (.string (ofBytes (List.replicate (lit 64) (97 : Int))))) ent25 (((hlc rfl).undE hg).dat (rdAu_mk D_v18_6_1 : Rd W23 (SF w [b10_22, b8_18, b6_14, b4_10, b2_6]) (Au.d ((ofAV (objV 1 ([ofBytes (List.replicate (lit 64) (97 : Int))]))))) _) sub_all) ((hlc rfl).undE hg) (fun g u1 u2 W hk hgk h1 h2 => by have h2 : u2 = _ := h2; subst u2; exact hasA_ok ((ofAV (objV 1 ([ofBytes (List.replicate (lit 64) (97 : Int))])))) (ofBytes (List.replicate (lit 64) (97 : Int))) W _ _ h1)) ?_
  refine .i (sp_and (hlc rfl) ((hlc rfl).weak fun hq => hq)) ?_
  refine .i (sp_move (hlc rfl)) ?_
  refine .e (t := 67) rfl (hlc rfl) (fun hg => sp_move (hbs rfl e5)) ?_
  refine .e (t := 67) rfl (hlc rfl) (fun hg => sp_eql ((hlc rfl).undE hg) Has.cst) ?_
  refine .i (sp_and (hlc rfl) ((hlc rfl).weak fun hq => hq)) ?_
  refine .i (sp_move (hlc rfl)) ?_
  refine .e (t := 71) rfl (hlc rfl) (fun hg => sp_move (hbs rfl e7)) ?_
  refine .e (t := 71) rfl (hlc rfl) (fun hg => sp_eql ((hlc rfl).undE hg) Has.cst) ?_
  refine .i (sp_and (hlc rfl) ((hlc rfl).weak fun hq => hq)) ?_
  refine .i (sp_move (hlc rfl)) ?_
  refine .e (t := 75) rfl (hlc rfl) (fun hg => sp_move (hbs rfl e9)) ?_
  refine .e (t := 75) rfl (hlc rfl) (fun hg => sp_eql ((hlc rfl).undE hg) Has.cst) ?_
  refine .i (sp_and (hlc rfl) ((hlc rfl).weak fun hq => hq)) ?_
  refine .i (sp_move (hlc rfl)) ?_
  refine .e (t := 79) rfl (hlc rfl) (fun hg => sp_move (hbs rfl e11)) ?_
  refine .e (t := 79) rfl (hlc rfl) (fun hg => sp_eql ((hlc rfl).undE hg) Has.cst) ?_
  refine .i (sp_and (hlc rfl) ((hlc rfl).weak fun hq => hq)) ?_
  refine .i (sp_assign (hlc rfl)) ?_
  refine .done ⟨by kernel_rfl, fun a26 g W26 y26 zz26 hk hg hV hR hP => ?_⟩
  obtain ⟨e0, -, -, -, -, -, -, -, -, -, -, -, -, -, -, -, -, -, -, -, -, -, -, -, -, -, -, -, -, -, -, -, -, -, -, -⟩ := hV
  replace D_v18_6_1 := D_v18_6_1.ext hk
  replace e0 := e0.q
  replace own_b2_6 := own_b2_6.ext hk
  replace own_b4_10 := own_b4_10.ext hk
  replace own_b6_14 := own_b6_14.ext hk
  replace own_b8_18 := own_b8_18.ext hk
  replace own_b10_22 := own_b10_22.ext hk
  replace kw := kw.x hk
  clear hR hk hg hP
  refine tail_nil (hK25 _ _ ?_)
  refine wp_ret ?_
  refine (show bodyPost Try.prog Try.f14 _ .ret _ _ from ret1 rfl zz26 e0 ⟨_, rfl, kw, ?_⟩)
  exact congrArg Value.bool (by kernel_rfl)

end Go.Proofs.Ytnobijngkpflcaa
