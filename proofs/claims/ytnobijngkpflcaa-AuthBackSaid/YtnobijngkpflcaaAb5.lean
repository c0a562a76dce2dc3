/-
  The law AuthBack of package legatelaw15 returns true for every input, and leaves its arguments as they were. No condition beyond the row's own.
-/
import Derived.Test.YtnobijngkpflcaaAb4
import Derived.ProofKit
import Derived.Test.YtnobijngkpflcaaRows
namespace Go.Proofs.Ytnobijngkpflcaa
open Go.Eng
set_option maxRecDepth 100000 in
theorem awakeA_ok (w : World) : Calls Try.prog 14 #[] w (Ret w fun u _ => u = .bool true) := by
  refine enter Try.func14 rfl Try.ntmps14 (lbr rfl) fun a0 y0 zz0 harg => ?_
  have kw := Keeps.refl All w
  clear harg
  refine wp_seq_k fun K1 hK1 => ?_
  refine rg mixed y0 zz0 ?_
  refine .i (sp_assign Has.cst) ?_
  refine .done ⟨by kernel_rfl, fun a2 g W2 y2 zz2 hk hg hV hR hP => ?_⟩
  obtain ⟨-, -⟩ := hV
  replace kw := kw.x hk
  clear hR hk hg hP
  refine tail_nil (hK1 _ _ ?_)
  refine wp_seq_k fun K3 hK3 => ?_
  refine rg mixed y2 zz2 ?_
  refine .i (v := (.string (ofBytes (List.replicate (lit 64) (97 : Int))))) (sp_call1 (φ1 := Is (.int .u8 (97))) ent15 Has.cst (fun g u1 W hk hgk h1 => by have h1 : u1 = _ := h1; subst u1; exact id_ok 97 W)) ?_
  refine .i (sp_assign (hlc rfl)) ?_
  refine .done ⟨by kernel_rfl, fun a4 g W4 y4 zz4 hk hg hV hR hP => ?_⟩
  obtain ⟨e1, -, -⟩ := hV
  replace e1 := e1.q
  replace kw := kw.x hk
  clear hR hk hg hP
  refine tail_nil (hK3 _ _ ?_)
  refine wp_seq_k fun K5 hK5 => ?_
  refine rg mixed y4 zz4 ?_
  refine .i (sp_move (hbs rfl e1)) ?_
  refine .da (X := SF w []) (e := strsD ([ofBytes (List.replicate (lit 64) (97 : Int))])) (sp_bsl (ds := [D.str (ofBytes (List.replicate (lit 64) (97 : Int)))]) Try.underlying23 sz9 z9 (lbr rfl) (lbr rfl) ⟨rfl, ((hlc rfl).str (idb _)), trivial⟩ rfl (by simp [width]) (fr_sf kw in_nil)) ?_
  refine .da (X := Fr W4) (e := V.d (objV 1 ([ofBytes (List.replicate (lit 64) (97 : Int))]))) (sp_call2 (φ1 := Is (.int .i64 (1))) (φ2 := IsD (SF w []) (strsD ([ofBytes (List.replicate (lit 64) (97 : Int))]))) ent17 Has.cst (hlc rfl) (fun g u1 u2 W hk hgk h1 h2 => by have h1 : u1 = _ := h1; subst u1; exact (object_ok (1) ([ofBytes (List.replicate (lit 64) (97 : Int))]) (by simp) W _ _ h2).mono (ret_fr hk hgk))) ?_
  refine .op (φ := IsT (IsD (Fr W4) (Au.d (ofAV (objV 1 ([ofBytes (List.replicate (lit 64) (97 : Int))]))))) (Is (.int .i64 (ofAE (objV 1 ([ofBytes (List.replicate (lit 64) (97 : Int))])))))) (st_t (st_d sub_all) (st_is _)) (sp_call1 (φ1 := IsD (Fr W4) (V.d (objV 1 ([ofBytes (List.replicate (lit 64) (97 : Int))])))) ent16 (hlc rfl) (fun g u1 W hk hgk h1 => (authOf_ok (objV 1 ([ofBytes (List.replicate (lit 64) (97 : Int))])) (Nat.le_of_ble_eq_true (by kernel_rfl)) W _ _ (fun b o h => h.1.2) h1).mono (fun _ _ ⟨v, h1, h2, r1, h3, h4⟩ => ⟨v, h1, h2, r1, _, h3, fresh_d hk hgk h4, rfl⟩))) ?_
  refine .op (φ := IsT (IsD (Fr W4) (Au.d (ofAV (objV 1 ([ofBytes (List.replicate (lit 64) (97 : Int))]))))) (Is (.int .i64 (ofAE (objV 1 ([ofBytes (List.replicate (lit 64) (97 : Int))])))))) (st_t (st_d sub_all) (st_is _)) (sp_move (hlc rfl)) ?_
  refine .da (X := Fr W4) (e := Au.d (ofAV (objV 1 ([ofBytes (List.replicate (lit 64) (97 : Int))])))) (sp_ext2 (hlc rfl) rfl) ?_
  refine .i (v := (.int .i64 (ofAE (objV 1 ([ofBytes (List.replicate (lit 64) (97 : Int))]))))) (sp_ext2' (hlc rfl) rfl) ?_
  refine .alloc z27 ?_
  refine .done ⟨by kernel_rfl, fun a6 g W6 y6 zz6 hk hg hV hR hP => ?_⟩
  obtain ⟨⟨b2_6, e2, hb2, own_b2_6⟩, e19, e18, -, -, -, -, -, -⟩ := hV
  have lo_b2_6 : w.heap.size ≤ b2_6 := Nat.le_trans kw.size (hg.lo _ _ hb2)
  have own_b2_6 : Own W6 b2_6 [(.int .i64 (0)), (.slice none 0 0)] 27 := own_b2_6
  replace e1 := (hR 1 rfl).trans e1
  obtain ⟨v18_6, ev⟩ : ∃ v, sl a6 18 = v := ⟨_, rfl⟩
  rw [ev] at e18
  have D_v18_6 : Rd W6 (SF w [b2_6]) (Au.d (ofAV (objV 1 ([ofBytes (List.replicate (lit 64) (97 : Int))])))) v18_6 := fr_end (M := []) e18 kw [b2_6] (in_cons ⟨_, hb2⟩ in_nil) in_nil
  replace e18 := ev; clear ev
  obtain ⟨v18_6_1a, v18_6_1c, ev, D_v18_6_1⟩ := rdAu_out D_v18_6
  subst ev; clear D_v18_6
  replace e19 := e19.q
  replace kw := kw.x hk
  clear hR hk hg hP hb2
  refine tail_store (b := b2_6) (o := 0) (v := (.agg #[(.int .i64 ((ofAV (objV 1 ([ofBytes (List.replicate (lit 64) (97 : Int))]))).th)), (.slice v18_6_1a (((ofAV (objV 1 ([ofBytes (List.replicate (lit 64) (97 : Int))]))).ids).length) v18_6_1c)])) e2 e18 sz27 rfl own_b2_6 (lbr rfl) (all_cons rfl (all_cons rfl all_nil)) (fun W7 hs own_b2_6 => ?_)
  have own_b2_6 : Own W7 b2_6 [(.int .i64 ((ofAV (objV 1 ([ofBytes (List.replicate (lit 64) (97 : Int))]))).th)), (.slice v18_6_1a (((ofAV (objV 1 ([ofBytes (List.replicate (lit 64) (97 : Int))]))).ids).length) v18_6_1c)] 27 := own_b2_6
  replace D_v18_6_1 := sf_store D_v18_6_1 hs (by simp)
  replace kw := keeps_store kw hs lo_b2_6
  clear hs
  refine tail_assign (v := (.int .i64 (ofAE (objV 1 ([ofBytes (List.replicate (lit 64) (97 : Int))]))))) e19 (by rw [y6]; exact Nat.le_of_ble_eq_true rfl) (fun a8 y8 zz8 e3 hr => ?_)
  replace y8 := y8.trans y6; replace zz8 := zz8.trans zz6
  replace e1 := (hr 1 (by decide)).trans e1
  replace e2 := (hr 2 (by decide)).trans e2
  replace e18 := (hr 18 (by decide)).trans e18
  replace e19 := (hr 19 (by decide)).trans e19
  clear hr
  refine tail_nil (hK5 _ _ ?_)
  refine wp_seq_k fun K9 hK9 => ?_
  refine rg mixed y8 zz8 ?_
  refine .i (sp_move (hbs rfl e1)) ?_
  refine .da (X := SF w [b2_6]) (e := strsD ([ofBytes (List.replicate (lit 64) (97 : Int))])) (sp_bsl (ds := [D.str (ofBytes (List.replicate (lit 64) (97 : Int)))]) Try.underlying23 sz9 z9 (lbr rfl) (lbr rfl) ⟨rfl, ((hlc rfl).str (idb _)), trivial⟩ rfl (by simp [width]) (fr_sf kw (in_cons own_b2_6.lt in_nil))) ?_
  refine .da (X := Fr W7) (e := V.d (objV 2 ([ofBytes (List.replicate (lit 64) (97 : Int))]))) (sp_call2 (φ1 := Is (.int .i64 (2))) (φ2 := IsD (SF w [b2_6]) (strsD ([ofBytes (List.replicate (lit 64) (97 : Int))]))) ent17 Has.cst (hlc rfl) (fun g u1 u2 W hk hgk h1 h2 => by have h1 : u1 = _ := h1; subst u1; exact (object_ok (2) ([ofBytes (List.replicate (lit 64) (97 : Int))]) (by simp) W _ _ h2).mono (ret_fr hk hgk))) ?_
  refine .op (φ := IsT (IsD (Fr W7) (Au.d (ofAV (objV 2 ([ofBytes (List.replicate (lit 64) (97 : Int))]))))) (Is (.int .i64 (ofAE (objV 2 ([ofBytes (List.replicate (lit 64) (97 : Int))])))))) (st_t (st_d sub_all) (st_is _)) (sp_call1 (φ1 := IsD (Fr W7) (V.d (objV 2 ([ofBytes (List.replicate (lit 64) (97 : Int))])))) ent16 (hlc rfl) (fun g u1 W hk hgk h1 => (authOf_ok (objV 2 ([ofBytes (List.replicate (lit 64) (97 : Int))])) (Nat.le_of_ble_eq_true (by kernel_rfl)) W _ _ (fun b o h => h.1.2) h1).mono (fun _ _ ⟨v, h1, h2, r1, h3, h4⟩ => ⟨v, h1, h2, r1, _, h3, fresh_d hk hgk h4, rfl⟩))) ?_
  refine .op (φ := IsT (IsD (Fr W7) (Au.d (ofAV (objV 2 ([ofBytes (List.replicate (lit 64) (97 : Int))]))))) (Is (.int .i64 (ofAE (objV 2 ([ofBytes (List.replicate (lit 64) (97 : Int))])))))) (st_t (st_d sub_all) (st_is _)) (sp_move (hlc rfl)) ?_
  refine .da (X := Fr W7) (e := Au.d (ofAV (objV 2 ([ofBytes (List.replicate (lit 64) (97 : Int))])))) (sp_ext2 (hlc rfl) rfl) ?_
  refine .i (v := (.int .i64 (ofAE (objV 2 ([ofBytes (List.replicate (lit 64) (97 : Int))]))))) (sp_ext2' (hlc rfl) rfl) ?_
  refine .alloc z27 ?_
  refine .done ⟨by kernel_rfl, fun a10 g W10 y10 zz10 hk hg hV hR hP => ?_⟩
  obtain ⟨⟨b4_10, e4, hb4, own_b4_10⟩, e26, e25, -, -, -, -, -, -⟩ := hV
  have lo_b4_10 : w.heap.size ≤ b4_10 := Nat.le_trans kw.size (hg.lo _ _ hb4)
  have ne_b2_6_b4_10 : b2_6 ≠ b4_10 := Nat.ne_of_lt (Nat.lt_of_lt_of_le own_b2_6.lt (hg.lo _ _ hb4))
  have own_b4_10 : Own W10 b4_10 [(.int .i64 (0)), (.slice none 0 0)] 27 := own_b4_10
  replace e1 := (hR 1 rfl).trans e1
  replace e2 := (hR 2 rfl).trans e2
  replace e3 := (hR 3 rfl).trans e3
  replace D_v18_6_1 := sf_more D_v18_6_1 hk [b4_10] (in_cons (hg.lo _ _ hb4) in_nil)
  obtain ⟨v25_10, ev⟩ : ∃ v, sl a10 25 = v := ⟨_, rfl⟩
  rw [ev] at e25
  have D_v25_10 : Rd W10 (SF w [b4_10, b2_6]) (Au.d (ofAV (objV 2 ([ofBytes (List.replicate (lit 64) (97 : Int))])))) v25_10 := fr_end (M := [b2_6]) e25 kw [b4_10] (in_cons ⟨_, hb4⟩ in_nil) (in_cons own_b2_6.lt in_nil)
  replace e25 := ev; clear ev
  obtain ⟨v25_10_1a, v25_10_1c, ev, D_v25_10_1⟩ := rdAu_out D_v25_10
  subst ev; clear D_v25_10
  replace e26 := e26.q
  replace own_b2_6 := own_b2_6.ext hk
  replace kw := kw.x hk
  clear hR hk hg hP hb4
  refine tail_store (b := b4_10) (o := 0) (v := (.agg #[(.int .i64 ((ofAV (objV 2 ([ofBytes (List.replicate (lit 64) (97 : Int))]))).th)), (.slice v25_10_1a (((ofAV (objV 2 ([ofBytes (List.replicate (lit 64) (97 : Int))]))).ids).length) v25_10_1c)])) e4 e25 sz27 rfl own_b4_10 (lbr rfl) (all_cons rfl (all_cons rfl all_nil)) (fun W11 hs own_b4_10 => ?_)
  have own_b4_10 : Own W11 b4_10 [(.int .i64 ((ofAV (objV 2 ([ofBytes (List.replicate (lit 64) (97 : Int))]))).th)), (.slice v25_10_1a (((ofAV (objV 2 ([ofBytes (List.replicate (lit 64) (97 : Int))]))).ids).length) v25_10_1c)] 27 := own_b4_10
  replace own_b2_6 := own_store own_b2_6 hs ne_b2_6_b4_10
  replace D_v18_6_1 := sf_store D_v18_6_1 hs (by simp)
  replace D_v25_10_1 := sf_store D_v25_10_1 hs (by simp)
  replace kw := keeps_store kw hs lo_b4_10
  clear hs
  refine tail_assign (v := (.int .i64 (ofAE (objV 2 ([ofBytes (List.replicate (lit 64) (97 : Int))]))))) e26 (by rw [y10]; exact Nat.le_of_ble_eq_true rfl) (fun a12 y12 zz12 e5 hr => ?_)
  replace y12 := y12.trans y10; replace zz12 := zz12.trans zz10
  replace e1 := (hr 1 (by decide)).trans e1
  replace e2 := (hr 2 (by decide)).trans e2
  replace e3 := (hr 3 (by decide)).trans e3
  replace e4 := (hr 4 (by decide)).trans e4
  replace e25 := (hr 25 (by decide)).trans e25
  replace e26 := (hr 26 (by decide)).trans e26
  clear hr
  refine tail_nil (hK9 _ _ ?_)
  refine wp_seq_k fun K13 hK13 => ?_
  refine rg mixed y12 zz12 ?_
  refine .i (sp_move (hbs rfl e1)) ?_
  refine .i (sp_move (hbs rfl e1)) ?_
  refine .da (X := SF w [b4_10, b2_6]) (e := strsD ([ofBytes (List.replicate (lit 64) (97 : Int)), ofBytes (List.replicate (lit 64) (97 : Int))])) (sp_bsl (ds := [D.str (ofBytes (List.replicate (lit 64) (97 : Int))), D.str (ofBytes (List.replicate (lit 64) (97 : Int)))]) Try.underlying23 sz9 z9 (lbr rfl) (lbr rfl) ⟨rfl, ((hlc rfl).str (idb _)), ⟨rfl, ((hlc rfl).str (idb _)), trivial⟩⟩ rfl (by simp [width]) (fr_sf kw (in_cons own_b4_10.lt (in_cons own_b2_6.lt in_nil)))) ?_
  refine .da (X := Fr W11) (e := V.d (objV 1 ([ofBytes (List.replicate (lit 64) (97 : Int)), ofBytes (List.replicate (lit 64) (97 : Int))]))) (sp_call2 (φ1 := Is (.int .i64 (1))) (φ2 := IsD (SF w [b4_10, b2_6]) (strsD ([ofBytes (List.replicate (lit 64) (97 : Int)), ofBytes (List.replicate (lit 64) (97 : Int))]))) ent17 Has.cst (hlc rfl) (fun g u1 u2 W hk hgk h1 h2 => by have h1 : u1 = _ := h1; subst u1; exact (object_ok (1) ([ofBytes (List.replicate (lit 64) (97 : Int)), ofBytes (List.replicate (lit 64) (97 : Int))]) (by simp) W _ _ h2).mono (ret_fr hk hgk))) ?_
  refine .op (φ := IsT (IsD (Fr W11) (Au.d (ofAV (objV 1 ([ofBytes (List.replicate (lit 64) (97 : Int)), ofBytes (List.replicate (lit 64) (97 : Int))]))))) (Is (.int .i64 (ofAE (objV 1 ([ofBytes (List.replicate (lit 64) (97 : Int)), ofBytes (List.replicate (lit 64) (97 : Int))])))))) (st_t (st_d sub_all) (st_is _)) (sp_call1 (φ1 := IsD (Fr W11) (V.d (objV 1 ([ofBytes (List.replicate (lit 64) (97 : Int)), ofBytes (List.replicate (lit 64) (97 : Int))])))) ent16 (hlc rfl) (fun g u1 W hk hgk h1 => (authOf_ok (objV 1 ([ofBytes (List.replicate (lit 64) (97 : Int)), ofBytes (List.replicate (lit 64) (97 : Int))])) (Nat.le_of_ble_eq_true (by kernel_rfl)) W _ _ (fun b o h => h.1.2) h1).mono (fun _ _ ⟨v, h1, h2, r1, h3, h4⟩ => ⟨v, h1, h2, r1, _, h3, fresh_d hk hgk h4, rfl⟩))) ?_
  refine .op (φ := IsT (IsD (Fr W11) (Au.d (ofAV (objV 1 ([ofBytes (List.replicate (lit 64) (97 : Int)), ofBytes (List.replicate (lit 64) (97 : Int))]))))) (Is (.int .i64 (ofAE (objV 1 ([ofBytes (List.replicate (lit 64) (97 : Int)), ofBytes (List.replicate (lit 64) (97 : Int))])))))) (st_t (st_d sub_all) (st_is _)) (sp_move (hlc rfl)) ?_
  refine .da (X := Fr W11) (e := Au.d (ofAV (objV 1 ([ofBytes (List.replicate (lit 64) (97 : Int)), ofBytes (List.replicate (lit 64) (97 : Int))])))) (sp_ext2 (hlc rfl) rfl) ?_
  refine .i (v := (.int .i64 (ofAE (objV 1 ([ofBytes (List.replicate (lit 64) (97 : Int)), ofBytes (List.replicate (lit 64) (97 : Int))]))))) (sp_ext2' (hlc rfl) rfl) ?_
  refine .alloc z27 ?_
  refine .done ⟨by kernel_rfl, fun a14 g W14 y14 zz14 hk hg hV hR hP => ?_⟩
  obtain ⟨⟨b6_14, e6, hb6, own_b6_14⟩, e34, e33, -, -, -, -, -, -, -⟩ := hV
  have lo_b6_14 : w.heap.size ≤ b6_14 := Nat.le_trans kw.size (hg.lo _ _ hb6)
  have ne_b2_6_b6_14 : b2_6 ≠ b6_14 := Nat.ne_of_lt (Nat.lt_of_lt_of_le own_b2_6.lt (hg.lo _ _ hb6))
  have ne_b4_10_b6_14 : b4_10 ≠ b6_14 := Nat.ne_of_lt (Nat.lt_of_lt_of_le own_b4_10.lt (hg.lo _ _ hb6))
  have own_b6_14 : Own W14 b6_14 [(.int .i64 (0)), (.slice none 0 0)] 27 := own_b6_14
  replace e1 := (hR 1 rfl).trans e1
  replace e2 := (hR 2 rfl).trans e2
  replace e3 := (hR 3 rfl).trans e3
  replace e5 := (hR 5 rfl).trans e5
  replace D_v18_6_1 := sf_more D_v18_6_1 hk [b6_14] (in_cons (hg.lo _ _ hb6) in_nil)
  obtain ⟨v33_14, ev⟩ : ∃ v, sl a14 33 = v := ⟨_, rfl⟩
  rw [ev] at e33
  have D_v33_14 : Rd W14 (SF w [b6_14, b4_10, b2_6]) (Au.d (ofAV (objV 1 ([ofBytes (List.replicate (lit 64) (97 : Int)), ofBytes (List.replicate (lit 64) (97 : Int))])))) v33_14 := fr_end (M := [b4_10, b2_6]) e33 kw [b6_14] (in_cons ⟨_, hb6⟩ in_nil) (in_cons own_b4_10.lt (in_cons own_b2_6.lt in_nil))
  replace e33 := ev; clear ev
  obtain ⟨v33_14_1a, v33_14_1c, ev, D_v33_14_1⟩ := rdAu_out D_v33_14
  subst ev; clear D_v33_14
  replace e34 := e34.q
  replace own_b2_6 := own_b2_6.ext hk
  replace own_b4_10 := own_b4_10.ext hk
  replace kw := kw.x hk
  clear hR hk hg hP hb6
  refine tail_store (b := b6_14) (o := 0) (v := (.agg #[(.int .i64 ((ofAV (objV 1 ([ofBytes (List.replicate (lit 64) (97 : Int)), ofBytes (List.replicate (lit 64) (97 : Int))]))).th)), (.slice v33_14_1a (((ofAV (objV 1 ([ofBytes (List.replicate (lit 64) (97 : Int)), ofBytes (List.replicate (lit 64) (97 : Int))]))).ids).length) v33_14_1c)])) e6 e33 sz27 rfl own_b6_14 (lbr rfl) (all_cons rfl (all_cons rfl all_nil)) (fun W15 hs own_b6_14 => ?_)
  have own_b6_14 : Own W15 b6_14 [(.int .i64 ((ofAV (objV 1 ([ofBytes (List.replicate (lit 64) (97 : Int)), ofBytes (List.replicate (lit 64) (97 : Int))]))).th)), (.slice v33_14_1a (((ofAV (objV 1 ([ofBytes (List.replicate (lit 64) (97 : Int)), ofBytes (List.replicate (lit 64) (97 : Int))]))).ids).length) v33_14_1c)] 27 := own_b6_14
  replace own_b2_6 := own_store own_b2_6 hs ne_b2_6_b6_14
  replace own_b4_10 := own_store own_b4_10 hs ne_b4_10_b6_14
  replace D_v18_6_1 := sf_store D_v18_6_1 hs (by simp)
  replace D_v33_14_1 := sf_store D_v33_14_1 hs (by simp)
  replace kw := keeps_store kw hs lo_b6_14
  clear hs
  refine tail_assign (v := (.int .i64 (ofAE (objV 1 ([ofBytes (List.replicate (lit 64) (97 : Int)), ofBytes (List.replicate (lit 64) (97 : Int))]))))) e34 (by rw [y14]; exact Nat.le_of_ble_eq_true rfl) (fun a16 y16 zz16 e7 hr => ?_)
  replace y16 := y16.trans y14; replace zz16 := zz16.trans zz14
  replace e1 := (hr 1 (by decide)).trans e1
  replace e2 := (hr 2 (by decide)).trans e2
  replace e3 := (hr 3 (by decide)).trans e3
  replace e5 := (hr 5 (by decide)).trans e5
  replace e6 := (hr 6 (by decide)).trans e6
  replace e33 := (hr 33 (by decide)).trans e33
  replace e34 := (hr 34 (by decide)).trans e34
  clear hr
  refine tail_nil (hK13 _ _ ?_)
  refine wp_seq_k fun K17 hK17 => ?_
  refine rg mixed y16 zz16 ?_
  refine .da (X := Fr W15) (e := V.d (objV 1 ([]))) (sp_call2 (φ1 := Is (.int .i64 (1))) (φ2 := IsD (SF w [b6_14, b4_10, b2_6]) (strsD ([]))) ent17 Has.cst (Has.cst.dat (rd_nil _ : Rd W15 (SF w [b6_14, b4_10, b2_6]) (strsD ([])) _) sub_all) (fun g u1 u2 W hk hgk h1 h2 => by have h1 : u1 = _ := h1; subst u1; exact (object_ok (1) ([]) (by simp) W _ _ h2).mono (ret_fr hk hgk))) ?_
  refine .op (φ := IsT (IsD (Fr W15) (Au.d (ofAV (objV 1 ([]))))) (Is (.int .i64 (ofAE (objV 1 ([])))))) (st_t (st_d sub_all) (st_is _)) (sp_call1 (φ1 := IsD (Fr W15) (V.d (objV 1 ([])))) ent16 (hlc rfl) (fun g u1 W hk hgk h1 => (authOf_ok (objV 1 ([])) (Nat.le_of_ble_eq_true (by kernel_rfl)) W _ _ (fun b o h => h.1.2) h1).mono (fun _ _ ⟨v, h1, h2, r1, h3, h4⟩ => ⟨v, h1, h2, r1, _, h3, fresh_d hk hgk h4, rfl⟩))) ?_
  refine .op (φ := IsT (IsD (Fr W15) (Au.d (ofAV (objV 1 ([]))))) (Is (.int .i64 (ofAE (objV 1 ([])))))) (st_t (st_d sub_all) (st_is _)) (sp_move (hlc rfl)) ?_
  refine .da (X := Fr W15) (e := Au.d (ofAV (objV 1 ([])))) (sp_ext2 (hlc rfl) rfl) ?_
  refine .i (v := (.int .i64 (ofAE (objV 1 ([]))))) (sp_ext2' (hlc rfl) rfl) ?_
  refine .alloc z27 ?_
  refine .done ⟨by kernel_rfl, fun a18 g W18 y18 zz18 hk hg hV hR hP => ?_⟩
  obtain ⟨⟨b8_18, e8, hb8, own_b8_18⟩, e39, e38, -, -, -, -⟩ := hV
  have lo_b8_18 : w.heap.size ≤ b8_18 := Nat.le_trans kw.size (hg.lo _ _ hb8)
  have ne_b2_6_b8_18 : b2_6 ≠ b8_18 := Nat.ne_of_lt (Nat.lt_of_lt_of_le own_b2_6.lt (hg.lo _ _ hb8))
  have ne_b4_10_b8_18 : b4_10 ≠ b8_18 := Nat.ne_of_lt (Nat.lt_of_lt_of_le own_b4_10.lt (hg.lo _ _ hb8))
  have ne_b6_14_b8_18 : b6_14 ≠ b8_18 := Nat.ne_of_lt (Nat.lt_of_lt_of_le own_b6_14.lt (hg.lo _ _ hb8))
  have own_b8_18 : Own W18 b8_18 [(.int .i64 (0)), (.slice none 0 0)] 27 := own_b8_18
  replace e1 := (hR 1 rfl).trans e1
  replace e2 := (hR 2 rfl).trans e2
  replace e3 := (hR 3 rfl).trans e3
  replace e5 := (hR 5 rfl).trans e5
  replace e7 := (hR 7 rfl).trans e7
  replace D_v18_6_1 := sf_more D_v18_6_1 hk [b8_18] (in_cons (hg.lo _ _ hb8) in_nil)
  obtain ⟨v38_18, ev⟩ : ∃ v, sl a18 38 = v := ⟨_, rfl⟩
  rw [ev] at e38
  have D_v38_18 : Rd W18 (SF w [b8_18, b6_14, b4_10, b2_6]) (Au.d (ofAV (objV 1 ([])))) v38_18 := fr_end (M := [b6_14, b4_10, b2_6]) e38 kw [b8_18] (in_cons ⟨_, hb8⟩ in_nil) (in_cons own_b6_14.lt (in_cons own_b4_10.lt (in_cons own_b2_6.lt in_nil)))
  replace e38 := ev; clear ev
  obtain ⟨v38_18_1a, v38_18_1c, ev, D_v38_18_1⟩ := rdAu_out D_v38_18
  subst ev; clear D_v38_18
  have e39 : sl a18 39 = (.int .i64 (ofAE (objV 1 ([])))) := e39
  replace own_b2_6 := own_b2_6.ext hk
  replace own_b4_10 := own_b4_10.ext hk
  replace own_b6_14 := own_b6_14.ext hk
  replace kw := kw.x hk
  clear hR hk hg hP hb8
  refine tail_store (b := b8_18) (o := 0) (v := (.agg #[(.int .i64 ((ofAV (objV 1 ([]))).th)), (.slice v38_18_1a (((ofAV (objV 1 ([]))).ids).length) v38_18_1c)])) e8 e38 sz27 rfl own_b8_18 (lbr rfl) (all_cons rfl (all_cons rfl all_nil)) (fun W19 hs own_b8_18 => ?_)
  have own_b8_18 : Own W19 b8_18 [(.int .i64 ((ofAV (objV 1 ([]))).th)), (.slice v38_18_1a (((ofAV (objV 1 ([]))).ids).length) v38_18_1c)] 27 := own_b8_18
  replace own_b2_6 := own_store own_b2_6 hs ne_b2_6_b8_18
  replace own_b4_10 := own_store own_b4_10 hs ne_b4_10_b8_18
  replace own_b6_14 := own_store own_b6_14 hs ne_b6_14_b8_18
  replace D_v18_6_1 := sf_store D_v18_6_1 hs (by simp)
  replace D_v38_18_1 := sf_store D_v38_18_1 hs (by simp)
  replace kw := keeps_store kw hs lo_b8_18
  clear hs
  refine tail_assign (v := (.int .i64 (ofAE (objV 1 ([]))))) e39 (by rw [y18]; exact Nat.le_of_ble_eq_true rfl) (fun a20 y20 zz20 e9 hr => ?_)
  replace y20 := y20.trans y18; replace zz20 := zz20.trans zz18
  replace e1 := (hr 1 (by decide)).trans e1
  replace e2 := (hr 2 (by decide)).trans e2
  replace e3 := (hr 3 (by decide)).trans e3
  replace e5 := (hr 5 (by decide)).trans e5
  replace e7 := (hr 7 (by decide)).trans e7
  replace e8 := (hr 8 (by decide)).trans e8
  replace e38 := (hr 38 (by decide)).trans e38
  replace e39 := (hr 39 (by decide)).trans e39
  clear hr
  refine tail_nil (hK17 _ _ ?_)
  refine wp_seq_k fun K21 hK21 => ?_
  refine rg mixed y20 zz20 ?_
  refine .i (sp_move (hbs rfl e1)) ?_
  refine .i (v := (.string ((ofBytes (List.replicate (lit 64) (97 : Int))).extract 0 63))) (sp_sliceHi (i := 63) Try.underlying9 (hlc rfl) Has.cst rfl (Nat.le_of_ble_eq_true (by kernel_rfl))) ?_
  refine .i (v := (.string (((ofBytes (List.replicate (lit 64) (97 : Int))).extract 0 63) ++ (⟨#[65]⟩ : ByteArray)))) (sp_sAdd (hlc rfl) Has.cst (Nat.le_of_ble_eq_true (by kernel_rfl))) ?_
  refine .da (X := SF w [b8_18, b6_14, b4_10, b2_6]) (e := strsD ([((ofBytes (List.replicate (lit 64) (97 : Int))).extract 0 63) ++ (⟨#[65]⟩ : ByteArray)])) (sp_bsl (ds := [D.str (((ofBytes (List.replicate (lit 64) (97 : Int))).extract 0 63) ++ (⟨#[65]⟩ : ByteArray))]) Try.underlying23 sz9 z9 (lbr rfl) (lbr rfl) ⟨rfl, ((hlc rfl).str (Nat.le_of_ble_eq_true (by kernel_rfl))), trivial⟩ rfl (by simp [width]) (fr_sf kw (in_cons own_b8_18.lt (in_cons own_b6_14.lt (in_cons own_b4_10.lt (in_cons own_b2_6.lt in_nil)))))) ?_
  refine .da (X := Fr W19) (e := V.d (objV 1 ([((ofBytes (List.replicate (lit 64) (97 : Int))).extract 0 63) ++ (⟨#[65]⟩ : ByteArray)]))) (sp_call2 (φ1 := Is (.int .i64 (1))) (φ2 := IsD (SF w [b8_18, b6_14, b4_10, b2_6]) (strsD ([((ofBytes (List.replicate (lit 64) (97 : Int))).extract 0 63) ++ (⟨#[65]⟩ : ByteArray)]))) ent17 Has.cst (hlc rfl) (fun g u1 u2 W hk hgk h1 h2 => by have h1 : u1 = _ := h1; subst u1; exact (object_ok (1) ([((ofBytes (List.replicate (lit 64) (97 : Int))).extract 0 63) ++ (⟨#[65]⟩ : ByteArray)]) (by simp) W _ _ h2).mono (ret_fr hk hgk))) ?_
  refine .op (φ := IsT (IsD (Fr W19) (Au.d (ofAV (objV 1 ([((ofBytes (List.replicate (lit 64) (97 : Int))).extract 0 63) ++ (⟨#[65]⟩ : ByteArray)]))))) (Is (.int .i64 (ofAE (objV 1 ([((ofBytes (List.replicate (lit 64) (97 : Int))).extract 0 63) ++ (⟨#[65]⟩ : ByteArray)])))))) (st_t (st_d sub_all) (st_is _)) (sp_call1 (φ1 := IsD (Fr W19) (V.d (objV 1 ([((ofBytes (List.replicate (lit 64) (97 : Int))).extract 0 63) ++ (⟨#[65]⟩ : ByteArray)])))) ent16 (hlc rfl) (fun g u1 W hk hgk h1 => (authOf_ok (objV 1 ([((ofBytes (List.replicate (lit 64) (97 : Int))).extract 0 63) ++ (⟨#[65]⟩ : ByteArray)])) (Nat.le_of_ble_eq_true (by kernel_rfl)) W _ _ (fun b o h => h.1.2) h1).mono (fun _ _ ⟨v, h1, h2, r1, h3, h4⟩ => ⟨v, h1, h2, r1, _, h3, fresh_d hk hgk h4, rfl⟩))) ?_
  refine .op (φ := IsT (IsD (Fr W19) (Au.d (ofAV (objV 1 ([((ofBytes (List.replicate (lit 64) (97 : Int))).extract 0 63) ++ (⟨#[65]⟩ : ByteArray)]))))) (Is (.int .i64 (ofAE (objV 1 ([((ofBytes (List.replicate (lit 64) (97 : Int))).extract 0 63) ++ (⟨#[65]⟩ : ByteArray)])))))) (st_t (st_d sub_all) (st_is _)) (sp_move (hlc rfl)) ?_
  refine .da (X := Fr W19) (e := Au.d (ofAV (objV 1 ([((ofBytes (List.replicate (lit 64) (97 : Int))).extract 0 63) ++ (⟨#[65]⟩ : ByteArray)])))) (sp_ext2 (hlc rfl) rfl) ?_
  refine .i (v := (.int .i64 (ofAE (objV 1 ([((ofBytes (List.replicate (lit 64) (97 : Int))).extract 0 63) ++ (⟨#[65]⟩ : ByteArray)]))))) (sp_ext2' (hlc rfl) rfl) ?_
  refine .alloc z27 ?_
  refine .done ⟨by kernel_rfl, fun a22 g W22 y22 zz22 hk hg hV hR hP => ?_⟩
  obtain ⟨⟨b10_22, e10, hb10, own_b10_22⟩, e48, e47, -, -, -, -, -, -, -, -⟩ := hV
  have lo_b10_22 : w.heap.size ≤ b10_22 := Nat.le_trans kw.size (hg.lo _ _ hb10)
  have ne_b2_6_b10_22 : b2_6 ≠ b10_22 := Nat.ne_of_lt (Nat.lt_of_lt_of_le own_b2_6.lt (hg.lo _ _ hb10))
  have ne_b4_10_b10_22 : b4_10 ≠ b10_22 := Nat.ne_of_lt (Nat.lt_of_lt_of_le own_b4_10.lt (hg.lo _ _ hb10))
  have ne_b6_14_b10_22 : b6_14 ≠ b10_22 := Nat.ne_of_lt (Nat.lt_of_lt_of_le own_b6_14.lt (hg.lo _ _ hb10))
  have ne_b8_18_b10_22 : b8_18 ≠ b10_22 := Nat.ne_of_lt (Nat.lt_of_lt_of_le own_b8_18.lt (hg.lo _ _ hb10))
  have own_b10_22 : Own W22 b10_22 [(.int .i64 (0)), (.slice none 0 0)] 27 := own_b10_22
  replace e1 := (hR 1 rfl).trans e1
  replace e2 := (hR 2 rfl).trans e2
  replace e3 := (hR 3 rfl).trans e3
  replace e5 := (hR 5 rfl).trans e5
  replace e7 := (hR 7 rfl).trans e7
  replace e9 := (hR 9 rfl).trans e9
  replace D_v18_6_1 := sf_more D_v18_6_1 hk [b10_22] (in_cons (hg.lo _ _ hb10) in_nil)
  obtain ⟨v47_22, ev⟩ : ∃ v, sl a22 47 = v := ⟨_, rfl⟩
  rw [ev] at e47
  have D_v47_22 : Rd W22 (SF w [b10_22, b8_18, b6_14, b4_10, b2_6]) (Au.d (ofAV (objV 1 ([((ofBytes (List.replicate (lit 64) (97 : Int))).extract 0 63) ++ (⟨#[65]⟩ : ByteArray)])))) v47_22 := fr_end (M := [b8_18, b6_14, b4_10, b2_6]) e47 kw [b10_22] (in_cons ⟨_, hb10⟩ in_nil) (in_cons own_b8_18.lt (in_cons own_b6_14.lt (in_cons own_b4_10.lt (in_cons own_b2_6.lt in_nil))))
  replace e47 := ev; clear ev
  obtain ⟨v47_22_1a, v47_22_1c, ev, D_v47_22_1⟩ := rdAu_out D_v47_22
  subst ev; clear D_v47_22
  replace e48 := e48.q
  replace own_b2_6 := own_b2_6.ext hk
  replace own_b4_10 := own_b4_10.ext hk
  replace own_b6_14 := own_b6_14.ext hk
  replace own_b8_18 := own_b8_18.ext hk
  replace kw := kw.x hk
  clear hR hk hg hP hb10
  refine tail_store (b := b10_22) (o := 0) (v := (.agg #[(.int .i64 ((ofAV (objV 1 ([((ofBytes (List.replicate (lit 64) (97 : Int))).extract 0 63) ++ (⟨#[65]⟩ : ByteArray)]))).th)), (.slice v47_22_1a (((ofAV (objV 1 ([((ofBytes (List.replicate (lit 64) (97 : Int))).extract 0 63) ++ (⟨#[65]⟩ : ByteArray)]))).ids).length) v47_22_1c)])) e10 e47 sz27 rfl own_b10_22 (lbr rfl) (all_cons rfl (all_cons rfl all_nil)) (fun W23 hs own_b10_22 => ?_)
  have own_b10_22 : Own W23 b10_22 [(.int .i64 ((ofAV (objV 1 ([((ofBytes (List.replicate (lit 64) (97 : Int))).extract 0 63) ++ (⟨#[65]⟩ : ByteArray)]))).th)), (.slice v47_22_1a (((ofAV (objV 1 ([((ofBytes (List.replicate (lit 64) (97 : Int))).extract 0 63) ++ (⟨#[65]⟩ : ByteArray)]))).ids).length) v47_22_1c)] 27 := own_b10_22
  replace own_b2_6 := own_store own_b2_6 hs ne_b2_6_b10_22
  replace own_b4_10 := own_store own_b4_10 hs ne_b4_10_b10_22
  replace own_b6_14 := own_store own_b6_14 hs ne_b6_14_b10_22
  replace own_b8_18 := own_store own_b8_18 hs ne_b8_18_b10_22
  replace D_v18_6_1 := sf_store D_v18_6_1 hs (by simp)
  replace D_v47_22_1 := sf_store D_v47_22_1 hs (by simp)
  replace kw := keeps_store kw hs lo_b10_22
  clear hs
  refine tail_assign (v := (.int .i64 (ofAE (objV 1 ([((ofBytes (List.replicate (lit 64) (97 : Int))).extract 0 63) ++ (⟨#[65]⟩ : ByteArray)]))))) e48 (by rw [y22]; exact Nat.le_of_ble_eq_true rfl) (fun a24 y24 zz24 e11 hr => ?_)
  replace y24 := y24.trans y22; replace zz24 := zz24.trans zz22
  replace e1 := (hr 1 (by decide)).trans e1
  replace e2 := (hr 2 (by decide)).trans e2
  replace e3 := (hr 3 (by decide)).trans e3
  replace e5 := (hr 5 (by decide)).trans e5
  replace e7 := (hr 7 (by decide)).trans e7
  replace e9 := (hr 9 (by decide)).trans e9
  replace e10 := (hr 10 (by decide)).trans e10
  replace e47 := (hr 47 (by decide)).trans e47
  replace e48 := (hr 48 (by decide)).trans e48
  clear hr
  refine tail_nil (hK21 _ _ ?_)
  refine wp_seq_k fun K25 hK25 => ?_
  refine rg mixed y24 zz24 ?_
  refine .i (sp_move (hbs rfl e3)) ?_
  refine .i (sp_eql (hlc rfl) Has.cst) ?_
  refine .i (sp_move (hlc rfl)) ?_
  refine .e (t := 51) (v := (.agg #[(.int .i64 ((ofAV (objV 1 ([ofBytes (List.replicate (lit 64) (97 : Int))]))).th)), (.slice v18_6_1a (((ofAV (objV 1 ([ofBytes (List.replicate (lit 64) (97 : Int))]))).ids).length) v18_6_1c)])) rfl (hlc rfl) (fun hg => loA (hbs rfl e2) own_b2_6 trivial agg27 sz27 rfl rfl) ?_
  refine .e (t := 51) rfl (hlc rfl) (fun hg => sp_move (hbs rfl e1)) ?_
  refine .opE (t := 51) (φ := IsD (SF w [b10_22, b8_18, b6_14, b4_10, b2_6]) (strsD ([ofBytes (List.replicate (lit 64) (97 : Int))]))) rfl (hlc rfl) (st_d sub_all) (fun hg => sp_bsl (ds := [D.str (ofBytes (List.replicate (lit 64) (97 : Int)))]) Try.underlying23 sz9 z9 (lbr rfl) (lbr rfl) ⟨rfl, (((hlc rfl).undE hg).str (idb _)), trivial⟩ rfl (by simp [width]) (fr_sf kw (in_cons own_b10_22.lt (in_cons own_b8_18.lt (in_cons own_b6_14.lt (in_cons own_b4_10.lt (in_cons own_b2_6.lt in_nil))))))) ?_
  refine .opE (t := 51) (φ := IsD (SF w [b10_22, b8_18, b6_14, b4_10, b2_6]) (Au.d (Au.mk (1) ([ofBytes (List.replicate (lit 64) (97 : Int))])))) rfl (hlc rfl) (st_d sub_all) (fun hg => sp_buildD (zd := [D.int .i64 0, strsD []]) (es := [(0, D.int .i64 (1)), (1, strsD ([ofBytes (List.replicate (lit 64) (97 : Int))]))]) Try.underlying27 z27 (pl27 Try.underlying27) ⟨rfl, Has.cst.int, ⟨rfl, ((hlc rfl).undE hg), trivial⟩⟩ zAu (by first | rfl | simp [plOf, width, width_V, hssD]) (by simp [fits, width, strsD, valsD, hssD, width_V]) rfl) ?_
  refine .e (t := 51) (v := (.bool (sameA (ofAV (objV 1 ([ofBytes (List.replicate (lit 64) (97 : Int))]))) (Au.mk (1) ([ofBytes (List.replicate (lit 64) (97 : Int))]))))) rfl (hlc rfl) (fun hg => sp_call2 (φ1 := IsD (SF w [b10_22, b8_18, b6_14, b4_10, b2_6]) (Au.d ((ofAV (objV 1 ([ofBytes (List.replicate (lit 64) (97 : Int))])))))) (φ2 := IsD (SF w [b10_22, b8_18, b6_14, b4_10, b2_6]) (Au.d (Au.mk (1) ([ofBytes (List.replicate (lit 64) (97 : Int))])))) ent20 (((hlc rfl).undE hg).dat (rdAu_mk D_v18_6_1 : Rd W23 (SF w [b10_22, b8_18, b6_14, b4_10, b2_6]) (Au.d ((ofAV (objV 1 ([ofBytes (List.replicate (lit 64) (97 : Int))]))))) _) sub_all) ((hlc rfl).undE hg) (fun g u1 u2 W hk hgk h1 h2 => refSameA_ok ((ofAV (objV 1 ([ofBytes (List.replicate (lit 64) (97 : Int))])))) (Au.mk (1) ([ofBytes (List.replicate (lit 64) (97 : Int))])) W _ _ _ h1 h2)) ?_
  refine .i (sp_and (hlc rfl) ((hlc rfl).weak fun hq => hq)) ?_
  refine .i (sp_move (hlc rfl)) ?_
  refine .e (t := 58) (v := (.agg #[(.int .i64 ((ofAV (objV 1 ([ofBytes (List.replicate (lit 64) (97 : Int))]))).th)), (.slice v18_6_1a (((ofAV (objV 1 ([ofBytes (List.replicate (lit 64) (97 : Int))]))).ids).length) v18_6_1c)])) rfl (hlc rfl) (fun hg => loA (hbs rfl e2) own_b2_6 trivial agg27 sz27 rfl rfl) ?_
  refine .e (t := 58) (v := (.bool (mayA (ofAV (objV 1 ([ofBytes (List.replicate (lit 64) (97 : Int))])))))) rfl (hlc rfl) (fun hg => sp_call1 (φ1 := IsD (SF w [b10_22, b8_18, b6_14, b4_10, b2_6]) (Au.d ((ofAV (objV 1 ([ofBytes (List.replicate (lit 64) (97 : Int))])))))) ent18 (((hlc rfl).undE hg).dat (rdAu_mk D_v18_6_1 : Rd W23 (SF w [b10_22, b8_18, b6_14, b4_10, b2_6]) (Au.d ((ofAV (objV 1 ([ofBytes (List.replicate (lit 64) (97 : Int))]))))) _) sub_all) (fun g u1 W hk hgk h1 => mayA_ok ((ofAV (objV 1 ([ofBytes (List.replicate (lit 64) (97 : Int))])))) W _ _ h1)) ?_
  refine .i (sp_and (hlc rfl) ((hlc rfl).weak fun hq => hq)) ?_
  refine .i (sp_move (hlc rfl)) ?_
  refine .e (t := 62) (v := (.agg #[(.int .i64 ((ofAV (objV 1 ([ofBytes (List.replicate (lit 64) (97 : Int))]))).th)), (.slice v18_6_1a (((ofAV (objV 1 ([ofBytes (List.replicate (lit 64) (97 : Int))]))).ids).length) v18_6_1c)])) rfl (hlc rfl) (fun hg => loA (hbs rfl e2) own_b2_6 trivial agg27 sz27 rfl rfl) ?_
  refine .e (t := 62) rfl (hlc rfl) (fun hg => sp_move (hbs rfl e1)) ?_
  refine .e (t := 62) (v := (.bool (hasA (ofAV (objV 1 ([ofBytes (List.replicate (lit 64) (97 : Int))]))) (ofBytes (List.replicate (lit 64) (97 : Int)))))) rfl (hlc rfl) (fun hg => sp_call2 (φ1 := IsD (SF w [b10_22, b8_18, b6_14, b4_10, b2_6]) (Au.d ((ofAV (objV 1 ([ofBytes (List.replicate (lit 64) (97 : Int))])))))) (φ2 := Is (.string (ofBytes (List.replicate (lit 64) (97 : Int))))) ent25 (((hlc rfl).undE hg).dat (rdAu_mk D_v18_6_1 : Rd W23 (SF w [b10_22, b8_18, b6_14, b4_10, b2_6]) (Au.d ((ofAV (objV 1 ([ofBytes (List.replicate (lit 64) (97 : Int))]))))) _) sub_all) ((hlc rfl).undE hg) (fun g u1 u2 W hk hgk h1 h2 => by have h2 : u2 = _ := h2; subst u2; exact hasA_ok ((ofAV (objV 1 ([ofBytes (List.replicate (lit 64) (97 : Int))])))) (ofBytes (List.replicate (lit 64) (97 : Int))) W _ _ h1)) ?_
  refine .i (sp_and (hlc rfl) ((hlc rfl).weak fun hq => hq)) ?_
  refine .i (sp_move (hlc rfl)) ?_
  refine .e (t := 67) rfl (hlc rfl) (fun hg => sp_move (hbs rfl e5)) ?_
  refine .e (t := 67) rfl (hlc rfl) (fun hg => sp_eql ((hlc rfl).undE hg) Has.cst) ?_
  refine .i (sp_and (hlc rfl) ((hlc rfl).weak fun hq => hq)) ?_
  refine .i (sp_move (hlc rfl)) ?_
  refine .e (t := 71) rfl (hlc rfl) (fun hg => sp_move (hbs rfl e7)) ?_
  refine .e (t := 71) rfl (hlc rfl) (fun hg => sp_eql ((hlc rfl).undE hg) Has.cst) ?_
  refine .i (sp_and (hlc rfl) ((hlc rfl).weak fun hq => hq)) ?_
  refine .i (sp_move (hlc rfl)) ?_
  refine .e (t := 75) rfl (hlc rfl) (fun hg => sp_move (hbs rfl e9)) ?_
  refine .e (t := 75) rfl (hlc rfl) (fun hg => sp_eql ((hlc rfl).undE hg) Has.cst) ?_
  refine .i (sp_and (hlc rfl) ((hlc rfl).weak fun hq => hq)) ?_
  refine .i (sp_move (hlc rfl)) ?_
  refine .e (t := 79) rfl (hlc rfl) (fun hg => sp_move (hbs rfl e11)) ?_
  refine .e (t := 79) rfl (hlc rfl) (fun hg => sp_eql ((hlc rfl).undE hg) Has.cst) ?_
  refine .i (sp_and (hlc rfl) ((hlc rfl).weak fun hq => hq)) ?_
  refine .i (sp_assign (hlc rfl)) ?_
  refine .done ⟨by kernel_rfl, fun a26 g W26 y26 zz26 hk hg hV hR hP => ?_⟩
  obtain ⟨e0, -, -, -, -, -, -, -, -, -, -, -, -, -, -, -, -, -, -, -, -, -, -, -, -, -, -, -, -, -, -, -, -, -, -, -⟩ := hV
  replace D_v18_6_1 := D_v18_6_1.ext hk
  replace e0 := e0.q
  replace own_b2_6 := own_b2_6.ext hk
  replace own_b4_10 := own_b4_10.ext hk
  replace own_b6_14 := own_b6_14.ext hk
  replace own_b8_18 := own_b8_18.ext hk
  replace own_b10_22 := own_b10_22.ext hk
  replace kw := kw.x hk
  clear hR hk hg hP
  refine tail_nil (hK25 _ _ ?_)
  refine wp_ret ?_
  refine (show bodyPost Try.prog Try.f14 _ .ret _ _ from ret1 rfl zz26 e0 ⟨_, rfl, kw, ?_⟩)
  exact congrArg Value.bool (by kernel_rfl)
end Go.Proofs.Ytnobijngkpflcaa
namespace Go.Proofs.Ytnobijngkpflcaa
open Go.Eng
set_option maxRecDepth 100000 in
set_option maxHeartbeats 1000000 in
theorem cmpStr_ok (a b : ByteArray) (w : World) : Calls Try.prog 144 #[.string a, .string b] w fun e w' => e = .returned (.int .i64 (Lib.compareBytes a.data.toList b.data.toList)) ∧ w' = w := by
  go_enter Try.func144, Try.ntmps144
  go_wp2
  rw [run_callFunc_extern Try.func163 (by kernel_rfl) (by kernel_rfl) (by kernel_rfl) (e := Extern.BytealgCompare.compare) (by kernel_rfl), Lib.run_compareString]
  simp only [Result.andThen]
  rw [Oper.upon_value]
  go_wp2
  go_ret
  exact ⟨rfl, rfl⟩
theorem compare_ok (a b : ByteArray) (w : World) : Calls Try.prog 97 #[.string a, .string b] w fun e w' => e = .returned (.int .i64 (Lib.compareBytes a.data.toList b.data.toList)) ∧ w' = w := by
  go_enter Try.func97, Try.ntmps97
  go_wp2_with (go_at_call 144; refine (cmpStr_ok _ _ _).mono ?_; rintro e w' ⟨rfl, rfl⟩)
  go_ret
  exact ⟨rfl, rfl⟩
theorem cmpMb_ok (a b : ByteArray) (c1 c2 c3 c4 c5 d1 d2 d3 d4 d5 : Value) (W : World) : Calls Try.prog 96 #[.agg #[.string a, c1, c2, c3, c4, c5], .agg #[.string b, d1, d2, d3, d4, d5]] W fun e w' => e = .returned (.int .i64 (Lib.compareBytes a.data.toList b.data.toList)) ∧ ∃ q os, w' = Sort.grow (W.drewN q) os := by
  have hcon := fun W' => compare_ok a b W'
  generalize Lib.compareBytes a.data.toList b.data.toList = r at hcon ⊢
  go_enter Try.func96, Try.ntmps96
  go_wp2_with (go_at_call 97; refine (hcon _).mono ?_; rintro e w' ⟨rfl, rfl⟩)
  go_ret
  exact ⟨rfl, 0, _, by rw [Sort.alloc_eq_grow, Sort.alloc_eq_grow, Sort.grow_grow]; rfl⟩
def renS : Shelf.Ren := ⟨fun x => if x = 20 then 153 else x, fun x => if x = 22 then 82 else if x = 24 then 67 else if x = 25 then 136 else x, fun x => x⟩
theorem bears20 : Bears Try.prog (renS.f 20) (SlBodyF.n20 renS) := ⟨_, by kernel_rfl, Try.func153⟩
theorem lays20 : SlLaysF0.n20 Try.prog renS := ⟨by kernel_rfl, bears20, Try.underlying0, Try.isAgg0, Try.sizeOf0, Try.zeroValue0, Try.underlying3, Try.isAgg3, Try.sizeOf3, Try.zeroValue3, Try.underlying4, Try.isAgg4, Try.sizeOf4, Try.zeroValue4, Try.underlying82, Try.isAgg82, Try.sizeOf82, Try.zeroValue82, Try.underlying136, Try.isAgg136, Try.sizeOf136, Try.zeroValue136⟩
theorem ins_ok (L : List Mb) (hn : 0 < L.length) (h12 : L.length ≤ 12) (w : World) (lo : Nat) (X : BSet) (v : Value) (hd : Option Nat) (hX : ∀ b o, X b o → b ∉ blks hd) (hA : Arr w lo 67 6 X (L.map Mb.d) v hd) :
    Calls Try.prog 153 #[v, .int .i64 0, .int .i64 L.length, .func (.func 96) #[] #[]] w (RetA w hd fun u W => u = .tuple #[] ∧ Arr W lo 67 6 X ((sortMb L).map Mb.d) v hd) :=
  ins_row lays20 Try.isAgg67 Try.sizeOf67 96 ent96 cmpMb_ok L hn h12 w lo X v hd hX rfl hA
theorem u8i (x : UInt8) : IntKind.i64.wrap ((0 : Int) + (((x.toNat : Nat) : Int) : Int)) = (0 : Int) + (((x.toNat : Nat) : Int) : Int) := i64_in (by have := UInt8.toNat_lt x; omega)
set_option maxRecDepth 100000 in
theorem len64_ok (n : Nat) (h : n ≤ 12) (w : World) : Calls Try.prog 162 #[.int .u64 n] w (Ret w fun u _ => ∃ l : Int, u = .int .i64 l) := by
  refine enter Try.func162 rfl Try.ntmps162 (lbr rfl) fun a0 y0 zz0 harg => ?_
  have e0 : sl a0 0 = (.int .u64 ((n : Nat))) := harg 0 (lbr rfl)
  have kw := Keeps.refl All w
  clear harg
  refine wp_seq_k fun K1 hK1 => ?_
  refine rg mixed y0 zz0 ?_
  refine .i (sp_assign Has.cst) ?_
  refine .done ⟨by kernel_rfl, fun a2 g W2 y2 zz2 hk hg hV hR hP => ?_⟩
  obtain ⟨e2, -⟩ := hV
  replace e0 := (hR 0 rfl).trans e0
  have e2 : sl a2 2 = (.int .i64 (0)) := e2
  replace kw := kw.x hk
  clear hR hk hg hP
  refine tail_nil (hK1 _ _ ?_)
  refine wp_seq_k fun K3 hK3 => ?_
  refine wp_seq_k fun K4 hK4 => ?_
  refine rg mixed y2 zz2 ?_
  refine .i (sp_move (hbs rfl e0)) ?_
  refine .i (sp_geq (hlc rfl) Has.cst) ?_
  refine .done ⟨by kernel_rfl, fun a5 g W5 y5 zz5 hk hg hV hR hP => ?_⟩
  obtain ⟨e4, -, -⟩ := hV
  replace e0 := (hR 0 rfl).trans e0
  replace e2 := (hR 2 rfl).trans e2
  replace e4 := e4.q
  replace kw := kw.x hk
  clear hR hk hg hP
  refine tail_nil (hK4 _ _ ?_)
  refine wp_cond_split e4 (fun hc => ?_) (fun hc => ?_)
  ·
   exfalso
   have := of_decide_eq_true hc
   omega
  ·
   refine wp_skip (hK3 _ _ ?_)
   refine wp_seq_k fun K6 hK6 => ?_
   refine wp_seq_k fun K7 hK7 => ?_
   refine rg mixed y5 zz5 ?_
   refine .i (sp_move (hbs rfl e0)) ?_
   refine .i (sp_geq (hlc rfl) Has.cst) ?_
   refine .done ⟨by kernel_rfl, fun a8 g W8 y8 zz8 hk hg hV hR hP => ?_⟩
   obtain ⟨e8, -, -⟩ := hV
   replace e0 := (hR 0 rfl).trans e0
   replace e2 := (hR 2 rfl).trans e2
   replace e8 := e8.q
   replace kw := kw.x hk
   clear hR hk hg hP
   refine tail_nil (hK7 _ _ ?_)
   refine wp_cond_split e8 (fun hc => ?_) (fun hc => ?_)
   ·
    exfalso
    have := of_decide_eq_true hc
    omega
   ·
    refine wp_skip (hK6 _ _ ?_)
    refine wp_seq_k fun K9 hK9 => ?_
    refine wp_seq_k fun K10 hK10 => ?_
    refine rg mixed y8 zz8 ?_
    refine .i (sp_move (hbs rfl e0)) ?_
    refine .i (sp_geq (hlc rfl) Has.cst) ?_
    refine .done ⟨by kernel_rfl, fun a11 g W11 y11 zz11 hk hg hV hR hP => ?_⟩
    obtain ⟨e14, -, -⟩ := hV
    replace e0 := (hR 0 rfl).trans e0
    replace e2 := (hR 2 rfl).trans e2
    replace e14 := e14.q
    replace kw := kw.x hk
    clear hR hk hg hP
    refine tail_nil (hK10 _ _ ?_)
    refine wp_cond_split e14 (fun hc => ?_) (fun hc => ?_)
    ·
     exfalso
     have := of_decide_eq_true hc
     omega
    ·
     refine wp_skip (hK9 _ _ ?_)
     refine wp_seq_k fun K12 hK12 => ?_
     refine rg mixed y11 zz11 ?_
     refine .i (sp_move (hbs rfl e2)) ?_
     refine .i (sp_move (hbs rfl e0)) ?_
     refine .i (v := (.int .u8 ((n : Nat)))) (sp_conv Try.underlying200 Try.underlying5 (hlc rfl) (u8_in (by omega))) ?_
     refine .i (v := (.int .u8 ((((⟨#[0, 1, 2, 2, 3, 3, 3, 3, 4, 4, 4, 4, 4, 4, 4, 4, 5, 5, 5, 5, 5, 5, 5, 5, 5, 5, 5, 5, 5, 5, 5, 5, 6, 6, 6, 6, 6, 6, 6, 6, 6, 6, 6, 6, 6, 6, 6, 6, 6, 6, 6, 6, 6, 6, 6, 6, 6, 6, 6, 6, 6, 6, 6, 6, 7, 7, 7, 7, 7, 7, 7, 7, 7, 7, 7, 7, 7, 7, 7, 7, 7, 7, 7, 7, 7, 7, 7, 7, 7, 7, 7, 7, 7, 7, 7, 7, 7, 7, 7, 7, 7, 7, 7, 7, 7, 7, 7, 7, 7, 7, 7, 7, 7, 7, 7, 7, 7, 7, 7, 7, 7, 7, 7, 7, 7, 7, 7, 7, 8, 8, 8, 8, 8, 8, 8, 8, 8, 8, 8, 8, 8, 8, 8, 8, 8, 8, 8, 8, 8, 8, 8, 8, 8, 8, 8, 8, 8, 8, 8, 8, 8, 8, 8, 8, 8, 8, 8, 8, 8, 8, 8, 8, 8, 8, 8, 8, 8, 8, 8, 8, 8, 8, 8, 8, 8, 8, 8, 8, 8, 8, 8, 8, 8, 8, 8, 8, 8, 8, 8, 8, 8, 8, 8, 8, 8, 8, 8, 8, 8, 8, 8, 8, 8, 8, 8, 8, 8, 8, 8, 8, 8, 8, 8, 8, 8, 8, 8, 8, 8, 8, 8, 8, 8, 8, 8, 8, 8, 8, 8, 8, 8, 8, 8, 8, 8, 8, 8, 8, 8, 8, 8, 8, 8, 8, 8, 8]⟩ : ByteArray)[n]'(Nat.lt_of_le_of_lt h (lbr rfl))).toNat : Nat)))) (sp_indexStrK (i := n) Try.underlying9 Has.cst (hlc rfl) rfl (Nat.lt_of_le_of_lt h (lbr rfl))) ?_
     refine .i (v := (.int .i64 ((((⟨#[0, 1, 2, 2, 3, 3, 3, 3, 4, 4, 4, 4, 4, 4, 4, 4, 5, 5, 5, 5, 5, 5, 5, 5, 5, 5, 5, 5, 5, 5, 5, 5, 6, 6, 6, 6, 6, 6, 6, 6, 6, 6, 6, 6, 6, 6, 6, 6, 6, 6, 6, 6, 6, 6, 6, 6, 6, 6, 6, 6, 6, 6, 6, 6, 7, 7, 7, 7, 7, 7, 7, 7, 7, 7, 7, 7, 7, 7, 7, 7, 7, 7, 7, 7, 7, 7, 7, 7, 7, 7, 7, 7, 7, 7, 7, 7, 7, 7, 7, 7, 7, 7, 7, 7, 7, 7, 7, 7, 7, 7, 7, 7, 7, 7, 7, 7, 7, 7, 7, 7, 7, 7, 7, 7, 7, 7, 7, 7, 8, 8, 8, 8, 8, 8, 8, 8, 8, 8, 8, 8, 8, 8, 8, 8, 8, 8, 8, 8, 8, 8, 8, 8, 8, 8, 8, 8, 8, 8, 8, 8, 8, 8, 8, 8, 8, 8, 8, 8, 8, 8, 8, 8, 8, 8, 8, 8, 8, 8, 8, 8, 8, 8, 8, 8, 8, 8, 8, 8, 8, 8, 8, 8, 8, 8, 8, 8, 8, 8, 8, 8, 8, 8, 8, 8, 8, 8, 8, 8, 8, 8, 8, 8, 8, 8, 8, 8, 8, 8, 8, 8, 8, 8, 8, 8, 8, 8, 8, 8, 8, 8, 8, 8, 8, 8, 8, 8, 8, 8, 8, 8, 8, 8, 8, 8, 8, 8, 8, 8, 8, 8, 8, 8, 8, 8, 8, 8]⟩ : ByteArray)[n]'(Nat.lt_of_le_of_lt h (lbr rfl))).toNat : Nat)))) (sp_conv Try.underlying5 Try.underlying3 (hlc rfl) (u8i64 _)) ?_
     refine .i (sp_add (hlc rfl) (hlc rfl) (u8i _)) ?_
     refine .i (sp_assign (hlc rfl)) ?_
     refine .done ⟨by kernel_rfl, fun a13 g W13 y13 zz13 hk hg hV hR hP => ?_⟩
     obtain ⟨e2, -, -, -, -, -, -, -⟩ := hV
     replace e2 := e2.q
     replace kw := kw.x hk
     clear hR hk hg hP
     refine tail_nil (hK12 _ _ ?_)
     refine wp_ret ?_
     refine (show bodyPost Try.prog Try.f162 _ .ret _ _ from ret1 rfl zz13 e2 ⟨_, rfl, kw, ?_⟩)
     exact ⟨_, rfl⟩
theorem len_ok (n : Nat) (h : n ≤ 12) (w : World) : Calls Try.prog 143 #[.int .u64 n] w (Ret w fun u _ => ∃ l : Int, u = .int .i64 l) := by
  have hcon := fun W => len64_ok n h W
  go_enter Try.func143, Try.ntmps143
  go_wp2_with (go_at_call 162; refine (hcon _).mono ?_; rintro e w' ⟨u, rfl, hk, l, rfl⟩)
  go_ret
  exact ⟨_, rfl, hk, _, rfl⟩
set_option maxHeartbeats 1000000 in
theorem pdq_ok (L : List Mb) (hn : 0 < L.length) (h12 : L.length ≤ 12) (lim : Int) (w : World) (lo : Nat) (X : BSet) (v : Value) (hd : Option Nat) (hX : ∀ b o, X b o → b ∉ blks hd) (hA : Arr w lo 67 6 X (L.map Mb.d) v hd) :
    Calls Try.prog 142 #[v, .int .i64 0, .int .i64 L.length, .int .i64 lim, .func (.func 96) #[] #[]] w (RetA w hd fun u W => u = .tuple #[] ∧ Arr W lo 67 6 X ((sortMb L).map Mb.d) v hd) := by
  have hc := ins_ok L hn h12 w lo X v hd hX hA
  have h1 : (L.length : Int) ≤ 12 := by omega
  go_enter Try.func142, Try.ntmps142
  go_wp2
  refine wp_loopAt (loopAt ?_)
  go_wp2_with (go_at_call 153; refine hc.mono ?_; rintro e w' ⟨u, rfl, hk, rfl, hA2⟩)
  go_end0
  exact ⟨_, rfl, hk, rfl, hA2⟩
set_option maxHeartbeats 1000000 in
theorem sort_ok (L : List Mb) (hn : 0 < L.length) (h12 : L.length ≤ 12) (w : World) (lo : Nat) (X : BSet) (v : Value) (hd : Option Nat) (hX : ∀ b o, X b o → b ∉ blks hd) (hA : Arr w lo 67 6 X (L.map Mb.d) v hd) :
    Calls Try.prog 95 #[v, .func (.func 96) #[] #[]] w (RetA w hd fun u W => u = .tuple #[] ∧ Arr W lo 67 6 X ((sortMb L).map Mb.d) v hd) := by
  have hc := fun lim W (k : Ext w W) => pdq_ok L hn h12 lim W lo X v hd hX (hA.ext k)
  have hl := fun W => len_ok L.length h12 W
  obtain ⟨g, cap, rfl, rfl⟩ := arr_open hA (by simpa using hn)
  rw [List.length_map] at hc ⊢
  have hw : IntKind.u64.wrap (L.length : Int) = L.length := u64_in (by omega)
  go_enter Try.func95, Try.ntmps95
  go_wp2_with fail
  refine (hl _).mono ?_
  rintro e w' ⟨u, rfl, hk, l, rfl⟩
  go_wp2_with fail
  refine (hc _ _ hk).mono ?_
  rintro e w' ⟨u, rfl, hk2, rfl, hA2⟩
  go_wp2
  go_end0
  exact ⟨_, rfl, (Keeps.of_ext hk).trans hk2, rfl, hA2⟩
end Go.Proofs.Ytnobijngkpflcaa
namespace Go.Proofs.Ytnobijngkpflcaa
open Go.Eng
set_option maxRecDepth 100000 in
theorem cloneM_ok (L : List Mb) (hn : L.length ≤ 1073741824) (w : World) (S : BSet) (v : Value) (hv : Rd w S (mbsD L) v) : Calls Try.prog 94 #[v] w (Ret w fun u W => ∃ hd, Arr W w.heap.size 67 6 (fun b o => Ar w S b o ∧ b ∉ blks hd) (L.map Mb.d) u hd) := by
  obtain ⟨va, vc, ev, D_v⟩ := rdMbs_out (rd_arg hv)
  subst ev
  refine enter Try.func94 rfl Try.ntmps94 (lbr rfl) fun a0 y0 zz0 harg => ?_
  have e0 : sl a0 0 = (.slice va (L.length) vc) := harg 0 (lbr rfl)
  have kw := Keeps.refl All w
  clear harg
  refine wp_seq_k fun K1 hK1 => ?_
  refine rg mixed y0 zz0 ?_
  refine .i (sp_assign Has.cst) ?_
  refine .done ⟨by kernel_rfl, fun a2 g W2 y2 zz2 hk hg hV hR hP => ?_⟩
  obtain ⟨-, -⟩ := hV
  replace e0 := (hR 0 rfl).trans e0
  replace D_v := D_v.ext hk
  replace kw := kw.x hk
  clear hR hk hg hP
  refine tail_nil (hK1 _ _ ?_)
  refine wp_seq_k fun K3 hK3 => ?_
  refine wp_seq_k fun K4 hK4 => ?_
  refine rg mixed y2 zz2 ?_
  refine .i (sp_move (hbs rfl e0)) ?_
  refine .i (v := (.bool (va.isNone))) (sp_slNil Try.underlying82 (hlc rfl) Has.cst) ?_
  refine .done ⟨by kernel_rfl, fun a5 g W5 y5 zz5 hk hg hV hR hP => ?_⟩
  obtain ⟨e4, -, -⟩ := hV
  replace e0 := (hR 0 rfl).trans e0
  replace D_v := D_v.ext hk
  have e4 : sl a5 4 = (.bool (va.isNone)) := e4
  replace kw := kw.x hk
  clear hR hk hg hP
  refine tail_nil (hK4 _ _ ?_)
  refine wp_cond_split e4 (fun hc => ?_) (fun hc => ?_)
  ·
   have hns : L = [] := by simpa using rd_none (ds := L.map Mb.d) D_v hc
   subst hns
   refine wp_seq_k fun K6 hK6 => ?_
   refine rg mixed y5 zz5 ?_
   refine .i (sp_assign Has.cst) ?_
   refine .done ⟨by kernel_rfl, fun a7 g W7 y7 zz7 hk hg hV hR hP => ?_⟩
   obtain ⟨e2, -⟩ := hV
   replace D_v := D_v.ext hk
   have e2 : sl a7 2 = (.slice none 0 0) := e2
   replace kw := kw.x hk
   clear hR hk hg hP
   refine tail_nil (hK6 _ _ ?_)
   refine wp_ret ?_
   refine (show bodyPost Try.prog Try.f94 _ .ret _ _ from ret1 rfl zz7 e2 ⟨_, rfl, kw, ?_⟩)
   exact ⟨none, arr_nil _ _ _ _ _⟩
  ·
   refine wp_skip (hK3 _ _ ?_)
   refine wp_seq_k fun K8 hK8 => ?_
   refine rg mixed y5 zz5 ?_
   refine .op (φ := IsArr W5 w.heap.size 67 6 (SA w S []) ([]) none) st_arr (sp_bslA Try.underlying82 sz67 kw.size) ?_
   refine .done ⟨by kernel_rfl, fun a9 g W9 y9 zz9 hk hg hV hR hP => ?_⟩
   obtain ⟨e5, -⟩ := hV
   replace e0 := (hR 0 rfl).trans e0
   obtain ⟨v5_9, ev⟩ : ∃ v, sl a9 5 = v := ⟨_, rfl⟩
   rw [ev] at e5
   obtain ⟨hd5_9, A_5_9, hf5_9⟩ := e5
   have e5 := ev; clear ev
   replace hf5_9 := row_new hf5_9
   obtain ⟨v5_9a, v5_9n, v5_9c, ev⟩ := arr_sl A_5_9; subst ev
   replace A_5_9 : Arr W9 w.heap.size 67 6 (SA w S (blks hd5_9 ++ [])) (List.map Mb.d ([])) (.slice v5_9a v5_9n v5_9c) hd5_9 := arrA_new A_5_9 (M' := (blks hd5_9 ++ [])) (fun b hb => (List.mem_append.1 hb).symm)
   replace D_v : Rd W9 (SA w S (blks hd5_9 ++ [])) (mbsD (L)) (.slice va (L.length) vc) := sa_more D_v hk (blks hd5_9) hf5_9
   replace kw := kw.x hk
   clear hR hk hg hP hf5_9
   refine tail_reg 2 (fun k => k ∉ blks hd5_9) (Ψ := fun W => Arr W w.heap.size 67 6 (SA w S (blks hd5_9 ++ [])) (List.map Mb.d ([])) (.slice v5_9a v5_9n v5_9c) hd5_9) y9 zz9 (fun W W' k h => h.ext k) A_5_9 rfl ?_
   refine .i (sp_move (hbs rfl e0)) ?_
   refine .appB (ds := List.map Mb.d ([])) (es := List.map Mb.d (L)) (X := SA w S (blks hd5_9 ++ [])) Try.underlying82 inf67 (lbr rfl) (hbs rfl e5) ((hlc rfl).dat D_v (sub_nb (fun b hb => List.mem_append_left _ hb))) (sub_nb (fun b hb => List.mem_append_left _ hb)) (by simp [maxLen]; omega) (by simp; omega) kw.size ?_
   refine .done ⟨by kernel_rfl, fun a10 g W10 y10 zz10 hk hg hV hR hP => ?_⟩
   refine tail_nil ?_
   show runTail _ _ _ _ _ _
   obtain ⟨e7, -, -⟩ := hV
   obtain ⟨v7_10, ev⟩ : ∃ v, sl a10 7 = v := ⟨_, rfl⟩
   rw [ev] at e7
   obtain ⟨hd7_10, A_7_10, hf7_10⟩ := e7
   have e7 := ev; clear ev
   obtain ⟨v7_10a, v7_10n, v7_10c, ev⟩ := arr_sl A_7_10; subst ev
   replace A_7_10 := arrA_new (M' := (blks hd7_10 ++ [])) A_7_10 (rep_app (rep_q fun _ h => h) rep_nil)
   replace A_7_10 : Arr W10 w.heap.size 67 6 (SA w S (blks hd7_10 ++ [])) (List.map Mb.d (L)) (.slice v7_10a v7_10n v7_10c) hd7_10 := by first | exact A_7_10 | (rw [List.map_append]; exact A_7_10)
   replace D_v := sa_app (M' := (blks hd7_10 ++ [])) D_v hk (fun b hb => List.mem_append_left _ hb) (rep_app hf7_10 rep_nil)
   replace kw := keeps_app kw hk A_5_9.ge
   clear hR hk hg hP hf7_10 A_5_9
   refine tail_assign (v := (.slice v7_10a v7_10n v7_10c)) e7 (by rw [y10]; exact Nat.le_of_ble_eq_true rfl) (fun a11 y11 zz11 e2 hr => ?_)
   replace y11 := y11.trans y10; replace zz11 := zz11.trans zz10
   replace e7 := (hr 7 (by decide)).trans e7
   clear hr
   refine tail_nil (hK8 _ _ ?_)
   refine wp_ret ?_
   refine (show bodyPost Try.prog Try.f94 _ .ret _ _ from ret1 rfl zz11 e2 ⟨_, rfl, kw, ?_⟩)
   exact arr_sa_ar A_7_10
set_option maxRecDepth 100000 in
theorem ObjectOf_ok (L : List Mb) (hn : 0 < L.length) (h12 : L.length ≤ 12) (hw : ∀ m ∈ L, m.v.wt ≤ 1073741824) (w : World) (S : BSet) (v : Value) (hS : ∀ b o, S b o → Cln o) (hv : Rd w S (mbsD L) v) : Calls Try.prog 38 #[v] w (Ret w fun r W => ∃ r1, r = .tuple #[r1, .int .i64 (objE L)] ∧ Rd W (Fr w) (objM L).d r1) := by
  have hsl := sortMb_len L
  have hwS := sortMb_all L hw
  obtain ⟨va, vc, ev, D_v⟩ := rdMbs_out (rd_arg hv)
  subst ev
  refine enter Try.func38 rfl Try.ntmps38 (lbr rfl) fun a0 y0 zz0 harg => ?_
  have e0 : sl a0 0 = (.slice va (L.length) vc) := harg 0 (lbr rfl)
  have kw := Keeps.refl All w
  clear harg
  refine wp_seq_k fun K1 hK1 => ?_
  refine rg mixed y0 zz0 ?_
  refine .alloc z33 ?_
  refine .i (sp_assign Has.cst) ?_
  refine .done ⟨by kernel_rfl, fun a2 g W2 y2 zz2 hk hg hV hR hP => ?_⟩
  obtain ⟨-, ⟨b2_2, e2, hb2, own_b2_2⟩, -⟩ := hV
  have lo_b2_2 : w.heap.size ≤ b2_2 := Nat.le_trans kw.size (hg.lo _ _ hb2)
  have own_b2_2 : Own W2 b2_2 [(.int .u8 (0)), (.int .i64 (0)), (.string (⟨#[]⟩)), (.slice none 0 0), (.slice none 0 0)] 33 := own_b2_2
  replace e0 := (hR 0 rfl).trans e0
  replace D_v := sa_more D_v hk [b2_2] (in_cons (hg.lo _ _ hb2) in_nil)
  replace kw := kw.x hk
  clear hR hk hg hP hb2
  refine tail_nil (hK1 _ _ ?_)
  refine wp_seq_k fun K3 hK3 => ?_
  refine rg mixed y2 zz2 ?_
  refine .i (sp_move (hbs rfl e0)) ?_
  refine .op (φ := IsArr W2 w.heap.size 67 6 (SA w S [b2_2]) (List.map Mb.d (L)) none) st_arr (sp_call1 (φ1 := IsD (SA w S [b2_2]) (mbsD (L))) ent94 ((hlc rfl).dat D_v sub_all) (fun g u1 W hk hgk h1 => (cloneM_ok (L) (by omega) W _ _ h1).mono (fun _ _ ⟨v, h1, h2, h3⟩ => ⟨v, h1, h2, arr_arA kw (in_cons own_b2_2.lt in_nil) hk h3⟩))) ?_
  refine .done ⟨by kernel_rfl, fun a4 g W4 y4 zz4 hk hg hV hR hP => ?_⟩
  obtain ⟨e9, -, -⟩ := hV
  replace e2 := (hR 2 rfl).trans e2
  obtain ⟨v9_4, ev⟩ : ∃ v, sl a4 9 = v := ⟨_, rfl⟩
  rw [ev] at e9
  obtain ⟨hd9_4, A_9_4, hf9_4⟩ := e9
  have e9 := ev; clear ev
  replace hf9_4 := row_new hf9_4
  obtain ⟨v9_4a, v9_4n, v9_4c, ev⟩ := arr_sl A_9_4; subst ev
  replace A_9_4 : Arr W4 w.heap.size 67 6 (SA w S (blks hd9_4 ++ (b2_2 :: []))) (List.map Mb.d (L)) (.slice v9_4a v9_4n v9_4c) hd9_4 := arrA_new A_9_4 (M' := (blks hd9_4 ++ (b2_2 :: []))) (fun b hb => (List.mem_append.1 hb).symm)
  have nb_b2_2_4 : b2_2 ∉ blks hd9_4 := fun hm => absurd (hf9_4 _ hm) (Nat.not_le.2 own_b2_2.lt)
  replace D_v : Rd W4 (SA w S (blks hd9_4 ++ (b2_2 :: []))) (mbsD (L)) (.slice va (L.length) vc) := sa_more D_v hk (blks hd9_4) hf9_4
  replace own_b2_2 := own_b2_2.ext hk
  replace kw := kw.x hk
  clear hR hk hg hP hf9_4
  refine tail_assign (v := (.slice v9_4a v9_4n v9_4c)) e9 (by rw [y4]; exact Nat.le_of_ble_eq_true rfl) (fun a5 y5 zz5 e4 hr => ?_)
  replace y5 := y5.trans y4; replace zz5 := zz5.trans zz4
  replace e2 := (hr 2 (by decide)).trans e2
  replace e9 := (hr 9 (by decide)).trans e9
  clear hr
  refine tail_nil (hK3 _ _ ?_)
  refine wp_seq_k fun K6 hK6 => ?_
  refine wp_reg (fun k => k ∉ blks hd9_4) (Ψ := fun W => Arr W w.heap.size 67 6 (SA w S (blks hd9_4 ++ (b2_2 :: []))) (List.map Mb.d (L)) (.slice v9_4a v9_4n v9_4c) hd9_4) mixed y5 zz5 (fun W W' k h => h.ext k) A_9_4 ?_
  refine .i (sp_move (hbs rfl e4)) ?_
  refine .callL2 (φ1 := Is (.slice v9_4a v9_4n v9_4c)) (φ2 := Is (.func (.func 96) #[] #[])) (φ := Is (.tuple #[])) (Ψ' := fun W => Arr W w.heap.size 67 6 (SA w S (blks hd9_4 ++ (b2_2 :: []))) (List.map Mb.d (sortMb L)) (.slice v9_4a v9_4n v9_4c) hd9_4) ent95 (hlc rfl) Has.fn (st_is _) (fun W W' k h => h.ext k) (fun g u1 u2 W hk hg h1 h2 hP => by have h1 : u1 = _ := h1; subst u1; have h2 : u2 = _ := h2; subst u2; exact sort_ok (L) hn h12 W _ _ _ _ (sub_nb (fun b hb => List.mem_append_left _ hb)) hP) ?_
  refine .done ⟨by kernel_rfl, fun a7 g W7 y7 zz7 hk hg hV hR hP => ?_⟩
  obtain ⟨-, -, -⟩ := hV
  replace e2 := (hR 2 rfl).trans e2
  replace e4 := (hR 4 rfl).trans e4
  replace own_b2_2 := own_keepL own_b2_2 hk nb_b2_2_4
  replace kw := keeps_app kw hk A_9_4.ge
  have A_w7 : Arr W7 w.heap.size 67 6 (SA w S (blks hd9_4 ++ (b2_2 :: []))) (List.map Mb.d (sortMb L)) (.slice v9_4a v9_4n v9_4c) hd9_4 := hP
  clear hR hk hg hP A_9_4
  have D_v9_4 : Rd W7 (SA w S [b2_2]) (mbsD (sortMb L)) (.slice v9_4a v9_4n v9_4c) := arrA_rd A_w7 (ls_skipA (ls_keep ls_nil)) (nin_cons nb_b2_2_4 nin_nil)
  obtain ⟨xa, xc, ev, D2⟩ := rdMbs_out D_v9_4
  injection ev with h1 h2 h3; subst h1 h2 h3; replace D_v9_4 := D2; clear D2
  refine tail_nil (hK6 _ _ ?_)
  refine wp_seq_k fun K8 hK8 => ?_
  refine rg mixed y7 zz7 ?_
  refine .i (v := (.agg #[(.int .u8 (5)), (.int .i64 (0)), (.string (⟨#[]⟩)), (.slice none 0 0), (.slice none 0 0)])) (sp_build (vs := [(0, (.int .u8 (5)))]) Try.underlying33 z33 (pl33 Try.underlying33) ⟨rfl, Has.cst, trivial⟩ rfl) ?_
  refine .alloc z33 ?_
  refine .done ⟨by kernel_rfl, fun a9 g W9 y9 zz9 hk hg hV hR hP => ?_⟩
  obtain ⟨⟨b5_9, e5, hb5, own_b5_9⟩, e12, -⟩ := hV
  have lo_b5_9 : w.heap.size ≤ b5_9 := Nat.le_trans kw.size (hg.lo _ _ hb5)
  have ne_b2_2_b5_9 : b2_2 ≠ b5_9 := Nat.ne_of_lt (Nat.lt_of_lt_of_le own_b2_2.lt (hg.lo _ _ hb5))
  have own_b5_9 : Own W9 b5_9 [(.int .u8 (0)), (.int .i64 (0)), (.string (⟨#[]⟩)), (.slice none 0 0), (.slice none 0 0)] 33 := own_b5_9
  replace e2 := (hR 2 rfl).trans e2
  replace e4 := (hR 4 rfl).trans e4
  replace D_v9_4 := sa_more D_v9_4 hk [b5_9] (in_cons (hg.lo _ _ hb5) in_nil)
  replace e12 := e12.q
  replace own_b2_2 := own_b2_2.ext hk
  replace kw := kw.x hk
  clear hR hk hg hP hb5
  refine tail_store (b := b5_9) (o := 0) (v := (.agg #[(.int .u8 (5)), (.int .i64 (0)), (.string (⟨#[]⟩)), (.slice none 0 0), (.slice none 0 0)])) e5 e12 sz33 rfl own_b5_9 (lbr rfl) (all_cons rfl (all_cons rfl (all_cons rfl (all_cons rfl (all_cons rfl all_nil))))) (fun W10 hs own_b5_9 => ?_)
  have own_b5_9 : Own W10 b5_9 [(.int .u8 (5)), (.int .i64 (0)), (.string (⟨#[]⟩)), (.slice none 0 0), (.slice none 0 0)] 33 := own_b5_9
  replace own_b2_2 := own_store own_b2_2 hs ne_b2_2_b5_9
  replace D_v9_4 := sa_store D_v9_4 hs (by simp)
  replace kw := keeps_store kw hs lo_b5_9
  clear hs
  refine tail_nil (hK8 _ _ ?_)
  refine wp_seq_k fun K11 hK11 => ?_
  refine wp_seq_k fun K12 hK12 => ?_
  refine rg mixed y9 zz9 ?_
  refine .i (sp_move (hbs rfl e4)) ?_
  refine .i (sp_lenL Try.underlying82 ((hlc rfl).dat D_v9_4 sub_all)) ?_
  refine .i (sp_move Has.cst) ?_
  refine .done ⟨by kernel_rfl, fun a13 g W13 y13 zz13 hk hg hV hR hP => ?_⟩
  obtain ⟨e15, e14, e13, -⟩ := hV
  replace e2 := (hR 2 rfl).trans e2
  replace e4 := (hR 4 rfl).trans e4
  replace e5 := (hR 5 rfl).trans e5
  replace D_v9_4 := D_v9_4.ext hk
  have e13 : sl a13 13 = (.slice v9_4a ((sortMb L).length) v9_4c) := e13
  have e14 : sl a13 14 = (.int .i64 ((sortMb L).length)) := e14
  have e15 : sl a13 15 = (.int .i64 (0)) := e15
  replace own_b2_2 := own_b2_2.ext hk
  replace own_b5_9 := own_b5_9.ext hk
  replace kw := kw.x hk
  clear hR hk hg hP
  refine tail_nil (hK12 _ _ ?_)
  refine wp_block ?_
  have A_ar14 : Arr W13 w.heap.size 9 1 (SF w (blks none ++ (b5_9 :: (b2_2 :: [])))) (List.map D.str ([])) (.slice none 0 0) none := arr_nil _ _ _ _ _
  replace D_v9_4 : Rd W13 (SA w S (blks none ++ (b5_9 :: (b2_2 :: [])))) (mbsD (sortMb L)) (.slice v9_4a ((sortMb L).length) v9_4c) := D_v9_4
  have A_ar15 : Arr W13 w.heap.size 33 5 (SF w (blks (none) ++ (blks none ++ (b5_9 :: (b2_2 :: []))))) (List.map V.d ([])) (.slice none 0 0) (none) := arr_nil _ _ _ _ _
  replace D_v9_4 : Rd W13 (SA w S (blks (none) ++ (blks none ++ (b5_9 :: (b2_2 :: []))))) (mbsD (sortMb L)) (.slice v9_4a ((sortMb L).length) v9_4c) := D_v9_4
  replace A_ar14 : Arr W13 w.heap.size 9 1 (SF w (blks (none) ++ (blks none ++ (b5_9 :: (b2_2 :: []))))) (List.map D.str ([])) (.slice none 0 0) none := A_ar14
  refine wp_for ((sortMb L).length) (fun k a W => ∃ (va3_16 : Value), ∃ (hd3_16 : Option Nat), ∃ (va4_16 : Value), ∃ (hd4_16 : Option Nat), a.tmps.size = 51 ∧ a.defers = [] ∧ Keeps All w W ∧ sl a 2 = (.pointer (some ⟨b2_2, 0, none⟩)) ∧ sl a 4 = (.slice v9_4a ((sortMb L).length) v9_4c) ∧ sl a 5 = (.pointer (some ⟨b5_9, 0, none⟩)) ∧ sl a 13 = (.slice v9_4a ((sortMb L).length) v9_4c) ∧ sl a 14 = (.int .i64 ((sortMb L).length)) ∧ sl a 15 = (.int .i64 ((k : Nat))) ∧ Own W b2_2 [(.int .u8 (0)), (.int .i64 (0)), (.string (⟨#[]⟩)), (.slice none 0 0), (.slice none 0 0)] 33 ∧ Own W b5_9 [(.int .u8 (5)), (.int .i64 (0)), (.string (⟨#[]⟩)), va3_16, va4_16] 33 ∧ Rd W (SA w S (blks hd4_16 ++ (blks hd3_16 ++ (b5_9 :: (b2_2 :: []))))) (mbsD (sortMb L)) (.slice v9_4a ((sortMb L).length) v9_4c) ∧ Arr W w.heap.size 9 1 (SF w (blks hd4_16 ++ (blks hd3_16 ++ (b5_9 :: (b2_2 :: []))))) (List.map D.str (List.map Mb.nm ((sortMb L).take k))) va3_16 hd3_16 ∧ b2_2 ∉ blks hd3_16 ∧ b5_9 ∉ blks hd3_16 ∧ Arr W w.heap.size 33 5 (SF w (blks hd4_16 ++ (blks hd3_16 ++ (b5_9 :: (b2_2 :: []))))) (List.map V.d (List.map Mb.v ((sortMb L).take k))) va4_16 hd4_16 ∧ b2_2 ∉ blks hd4_16 ∧ b5_9 ∉ blks hd4_16 ∧ (∀ b ∈ blks hd3_16, b ∉ blks hd4_16) ∧ (∀ i (h : i + 1 < (sortMb L).length), i + 1 < k → ((sortMb L)[i]).nm ≠ ((sortMb L)[i + 1]).nm)) ⟨(.slice none 0 0), none, (.slice none 0 0), (none), y13, zz13, kw, e2, e4, e5, e13, e14, (e15.trans (congrArg (Value.int .i64) (rfl))), own_b2_2, own_b5_9, D_v9_4, A_ar14, nb_none, nb_none, A_ar15, nb_none, nb_none, (fun _ _ => nb_none), fun i h hi => absurd hi (by omega)⟩ ?_
  clear kw e2 e4 e5 e13 e14 e15 own_b2_2 own_b5_9 D_v9_4 A_ar14 A_ar15
  rintro k a16 W16 hkk ⟨va3_16, hd3_16, va4_16, hd4_16, y16, zz16, kw, e2, e4, e5, e13, e14, e15, own_b2_2, own_b5_9, D_v9_4, A3_16, nb_b2_2_ar14_16, nb_b5_9_ar14_16, A4_16, nb_b2_2_ar15_16, nb_b5_9_ar15_16, dj_ar14_ar15_16, hinv⟩
  refine wp_seq_k fun K17 hK17 => ?_
  refine rg mixed y16 zz16 ?_
  refine .i (sp_lss (hbs rfl e15) (hbs rfl e14)) ?_
  refine .done ⟨by kernel_rfl, fun a18 g W18 y18 zz18 hk hg hV hR hP => ?_⟩
  obtain ⟨e16, -⟩ := hV
  replace e2 := (hR 2 rfl).trans e2
  replace e4 := (hR 4 rfl).trans e4
  replace e5 := (hR 5 rfl).trans e5
  replace e13 := (hR 13 rfl).trans e13
  replace e14 := (hR 14 rfl).trans e14
  replace e15 := (hR 15 rfl).trans e15
  replace A3_16 := A3_16.ext hk
  replace A4_16 := A4_16.ext hk
  replace D_v9_4 := D_v9_4.ext hk
  replace e16 := e16.q
  replace own_b2_2 := own_b2_2.ext hk
  replace own_b5_9 := own_b5_9.ext hk
  replace kw := kw.x hk
  clear hR hk hg hP
  refine tail_nil (hK17 _ _ ?_)
  refine wp_seq_k fun K19 hK19 => ?_
  refine wp_cond_split e16 (fun hc => ?_) (fun hc => ?_)
  ·
   have hlt : k < (sortMb L).length := by simpa using hc
   have hwm := hwS _ (List.getElem_mem hlt)
   refine wp_skip (hK19 _ _ ?_)
   refine wp_seq_k fun K20 hK20 => ?_
   refine wp_block ?_
   refine wp_seq_k fun K21 hK21 => ?_
   refine rg mixed y18 zz18 ?_
   refine .i (sp_move (hbs rfl e15)) ?_
   refine .rf (X := SA w S (blks hd4_16 ++ (blks hd3_16 ++ (b5_9 :: (b2_2 :: []))))) (e := Mb.d ((sortMb L)[k]'hlt)) (sp_indexL (i := k) ((hbs rfl e13).dat D_v9_4 sub_all) (hbs rfl e15) Try.underlying82 sz67 rfl hlt) ?_
   refine .da (X := SA w S (blks hd4_16 ++ (blks hd3_16 ++ (b5_9 :: (b2_2 :: []))))) (e := Mb.d ((sortMb L)[k]'hlt)) (sp_loadR (hlc rfl) agg67 sz67 (width_Mb _)) ?_
   refine .alloc z67 ?_
   refine .i (sp_assign (hlc rfl)) ?_
   refine .done ⟨by kernel_rfl, fun a22 g W22 y22 zz22 hk hg hV hR hP => ?_⟩
   obtain ⟨e6, ⟨b7_22, e7, hb7, own_b7_22⟩, e19, -, -, -⟩ := hV
   have lo_b7_22 : w.heap.size ≤ b7_22 := Nat.le_trans kw.size (hg.lo _ _ hb7)
   have ne_b2_2_b7_22 : b2_2 ≠ b7_22 := Nat.ne_of_lt (Nat.lt_of_lt_of_le own_b2_2.lt (hg.lo _ _ hb7))
   have ne_b5_9_b7_22 : b5_9 ≠ b7_22 := Nat.ne_of_lt (Nat.lt_of_lt_of_le own_b5_9.lt (hg.lo _ _ hb7))
   have own_b7_22 : Own W22 b7_22 [(.string (⟨#[]⟩)), (.int .u8 (0)), (.int .i64 (0)), (.string (⟨#[]⟩)), (.slice none 0 0), (.slice none 0 0)] 67 := own_b7_22
   replace e2 := (hR 2 rfl).trans e2
   replace e4 := (hR 4 rfl).trans e4
   replace e5 := (hR 5 rfl).trans e5
   replace e13 := (hR 13 rfl).trans e13
   replace e14 := (hR 14 rfl).trans e14
   replace e15 := (hR 15 rfl).trans e15
   have nb_b7_22_ar14 : b7_22 ∉ blks hd3_16 := nb_lt A3_16.lt (hg.lo _ _ hb7)
   replace A3_16 : Arr W22 w.heap.size 9 1 (SF w (b7_22 :: (blks hd4_16 ++ (blks hd3_16 ++ (b5_9 :: (b2_2 :: [])))))) (List.map D.str (List.map Mb.nm ((sortMb L).take k))) va3_16 hd3_16 := arrF_more A3_16 hk [b7_22] (in_cons (hg.lo _ _ hb7) in_nil)
   have nb_b7_22_ar15 : b7_22 ∉ blks hd4_16 := nb_lt A4_16.lt (hg.lo _ _ hb7)
   replace A4_16 : Arr W22 w.heap.size 33 5 (SF w (b7_22 :: (blks hd4_16 ++ (blks hd3_16 ++ (b5_9 :: (b2_2 :: [])))))) (List.map V.d (List.map Mb.v ((sortMb L).take k))) va4_16 hd4_16 := arrF_more A4_16 hk [b7_22] (in_cons (hg.lo _ _ hb7) in_nil)
   replace D_v9_4 : Rd W22 (SA w S (b7_22 :: (blks hd4_16 ++ (blks hd3_16 ++ (b5_9 :: (b2_2 :: [])))))) (mbsD (sortMb L)) (.slice v9_4a ((sortMb L).length) v9_4c) := sa_more D_v9_4 hk [b7_22] (in_cons (hg.lo _ _ hb7) in_nil)
   obtain ⟨v19_22, ev⟩ : ∃ v, sl a22 19 = v := ⟨_, rfl⟩
   rw [ev] at e19
   have D_v19_22 : Rd W22 (SA w S (b7_22 :: (blks hd4_16 ++ (blks hd3_16 ++ (b5_9 :: (b2_2 :: [])))))) (Mb.d ((sortMb L)[k]'hlt)) v19_22 := sa_end e19 hk [b7_22] (in_cons ⟨_, hb7⟩ in_nil)
   replace e19 := ev; clear ev
   obtain ⟨v19_22_4a, v19_22_4c, v19_22_5a, v19_22_5c, ev, hb_v19_22_0, hb_v19_22_3, D_v19_22_4, D_v19_22_5⟩ := rdMb_out D_v19_22
   subst ev; clear D_v19_22
   have e6 : sl a22 6 = (.int .i64 ((k : Nat))) := e6
   replace own_b2_2 := own_b2_2.ext hk
   replace own_b5_9 := own_b5_9.ext hk
   replace kw := kw.x hk
   clear hR hk hg hP hb7
   refine tail_store (b := b7_22) (o := 0) (v := (.agg #[(.string (((sortMb L)[k]'hlt).nm)), (.int .u8 (((sortMb L)[k]'hlt).v.k)), (.int .i64 (((sortMb L)[k]'hlt).v.n)), (.string (((sortMb L)[k]'hlt).v.t)), (.slice v19_22_4a ((((sortMb L)[k]'hlt).v.ns).length) v19_22_4c), (.slice v19_22_5a ((((sortMb L)[k]'hlt).v.xs).length) v19_22_5c)])) e7 e19 sz67 rfl own_b7_22 (lbr rfl) (all_cons rfl (all_cons rfl (all_cons rfl (all_cons rfl (all_cons rfl (all_cons rfl all_nil)))))) (fun W23 hs own_b7_22 => ?_)
   have own_b7_22 : Own W23 b7_22 [(.string (((sortMb L)[k]'hlt).nm)), (.int .u8 (((sortMb L)[k]'hlt).v.k)), (.int .i64 (((sortMb L)[k]'hlt).v.n)), (.string (((sortMb L)[k]'hlt).v.t)), (.slice v19_22_4a ((((sortMb L)[k]'hlt).v.ns).length) v19_22_4c), (.slice v19_22_5a ((((sortMb L)[k]'hlt).v.xs).length) v19_22_5c)] 67 := own_b7_22
   replace own_b2_2 := own_store own_b2_2 hs ne_b2_2_b7_22
   replace own_b5_9 := own_store own_b5_9 hs ne_b5_9_b7_22
   replace D_v9_4 := sa_store D_v9_4 hs (by simp)
   replace D_v19_22_4 := sa_store D_v19_22_4 hs (by simp)
   replace D_v19_22_5 := sa_store D_v19_22_5 hs (by simp)
   replace A3_16 := arrF_store A3_16 hs (by simp) nb_b7_22_ar14
   replace A4_16 := arrF_store A4_16 hs (by simp) nb_b7_22_ar15
   replace kw := keeps_store kw hs lo_b7_22
   clear hs
   refine tail_nil (hK21 _ _ ?_)
   refine wp_seq_k fun K24 hK24 => ?_
   refine wp_seq_k fun K25 hK25 => ?_
   refine rg mixed y22 zz22 ?_
   refine .i (sp_move (hbs rfl e6)) ?_
   refine .i (sp_gtr (hlc rfl) Has.cst) ?_
   refine .i (sp_move (hlc rfl)) ?_
   refine .e (t := 22) rfl (hlc rfl) (fun hg => sp_move (hbs rfl e4)) ?_
   refine .e (t := 22) rfl (hlc rfl) (fun hg => sp_move (hbs rfl e6)) ?_
   refine .e (t := 22) rfl (hlc rfl) (fun hg => sp_sub ((hlc rfl).undE hg) Has.cst (i64_in (by omega))) ?_
   refine .opE (t := 22) (φ := IsR (SA w S (b7_22 :: (blks hd4_16 ++ (blks hd3_16 ++ (b5_9 :: (b2_2 :: [])))))) (Mb.d ((sortMb L)[(k - 1)]'(by omega)))) rfl (hlc rfl) (st_r sub_all) (fun hg => sp_indexL (i := (k - 1)) (((hlc rfl).undE hg).dat D_v9_4 sub_all) ((hlc rfl).undE hg) Try.underlying82 sz67 (by have := of_decide_eq_true hg; omega) (by omega)) ?_
   refine .opE (t := 22) (φ := IsR (SA w S (b7_22 :: (blks hd4_16 ++ (blks hd3_16 ++ (b5_9 :: (b2_2 :: [])))))) (D.str (((sortMb L)[(k - 1)]'(by omega)).nm))) rfl (hlc rfl) (st_r sub_all) (fun hg => sp_fieldR ((hlc rfl).undE hg) Try.underlying67 rfl sz9 rfl (by first | rfl | simp [widths, width, hssD, width_V])) ?_
   refine .e (t := 22) rfl (hlc rfl) (fun hg => sp_loadStr ((hlc rfl).undE hg) agg9 sz9) ?_
   refine .e (t := 22) rfl (hlc rfl) (fun hg => fo 0 (hbs rfl e7) Try.underlying67 rfl sz9 rfl) ?_
   refine .e (t := 22) rfl (hlc rfl) (fun hg => lo1 ((hlc rfl).undE hg) own_b7_22 trivial agg9 sz9 rfl) ?_
   refine .e (t := 22) rfl (hlc rfl) (fun hg => sp_sEql ((hlc rfl).undE hg) ((hlc rfl).undE hg)) ?_
   refine .i (sp_and (hlc rfl) ((hlc rfl).weak fun hq => hq)) ?_
   refine .done ⟨by kernel_rfl, fun a26 g W26 y26 zz26 hk hg hV hR hP => ?_⟩
   obtain ⟨e32, -, -, -, -, -, -, -, -, -, -, -, -, -⟩ := hV
   replace e2 := (hR 2 rfl).trans e2
   replace e4 := (hR 4 rfl).trans e4
   replace e5 := (hR 5 rfl).trans e5
   replace e13 := (hR 13 rfl).trans e13
   replace e14 := (hR 14 rfl).trans e14
   replace e15 := (hR 15 rfl).trans e15
   replace e7 := (hR 7 rfl).trans e7
   replace A3_16 := A3_16.ext hk
   replace A4_16 := A4_16.ext hk
   replace D_v9_4 := D_v9_4.ext hk
   replace D_v19_22_4 := D_v19_22_4.ext hk
   replace D_v19_22_5 := D_v19_22_5.ext hk
   replace e32 := e32.q
   replace own_b2_2 := own_b2_2.ext hk
   replace own_b5_9 := own_b5_9.ext hk
   replace own_b7_22 := own_b7_22.ext hk
   replace kw := kw.x hk
   clear hR hk hg hP
   refine tail_nil (hK25 _ _ ?_)
   refine wp_cond_split e32 (fun hc => ?_) (fun hc => ?_)
   ·
    have hadj : adj (sortMb L) = true := by simp at hc; exact adj_true _ (k - 1) (by omega) (by simpa [Nat.sub_add_cancel (show 1 ≤ k by omega)] using hc.2)
    have hoe : objE L = 7 := by rw [objE, hadj]; rfl
    have hov : objM L = ⟨0, 0, ⟨#[]⟩, [], []⟩ := by rw [objM, hadj]; rfl
    refine wp_seq_k fun K27 hK27 => ?_
    refine rg mixed y26 zz26 ?_
    refine .i (v := (.agg #[(.int .u8 (0)), (.int .i64 (0)), (.string (⟨#[]⟩)), (.slice none 0 0), (.slice none 0 0)])) (sp_build (vs := []) Try.underlying33 z33 (pl33 Try.underlying33) trivial rfl) ?_
    refine .done ⟨by kernel_rfl, fun a28 g W28 y28 zz28 hk hg hV hR hP => ?_⟩
    obtain ⟨e33, -⟩ := hV
    replace e2 := (hR 2 rfl).trans e2
    replace A3_16 := A3_16.ext hk
    replace A4_16 := A4_16.ext hk
    replace D_v9_4 := D_v9_4.ext hk
    replace D_v19_22_4 := D_v19_22_4.ext hk
    replace D_v19_22_5 := D_v19_22_5.ext hk
    replace e33 := e33.q
    replace own_b2_2 := own_b2_2.ext hk
    replace own_b5_9 := own_b5_9.ext hk
    replace own_b7_22 := own_b7_22.ext hk
    replace kw := kw.x hk
    clear hR hk hg hP
    refine tail_store (b := b2_2) (o := 0) (v := (.agg #[(.int .u8 (0)), (.int .i64 (0)), (.string (⟨#[]⟩)), (.slice none 0 0), (.slice none 0 0)])) e2 e33 sz33 rfl own_b2_2 (lbr rfl) (all_cons rfl (all_cons rfl (all_cons rfl (all_cons rfl (all_cons rfl all_nil))))) (fun W29 hs own_b2_2 => ?_)
    have own_b2_2 : Own W29 b2_2 [(.int .u8 (0)), (.int .i64 (0)), (.string (⟨#[]⟩)), (.slice none 0 0), (.slice none 0 0)] 33 := own_b2_2
    replace own_b5_9 := own_store own_b5_9 hs ne_b2_2_b5_9.symm
    replace own_b7_22 := own_store own_b7_22 hs ne_b2_2_b7_22.symm
    replace D_v9_4 := sa_store D_v9_4 hs (by simp)
    replace D_v19_22_4 := sa_store D_v19_22_4 hs (by simp)
    replace D_v19_22_5 := sa_store D_v19_22_5 hs (by simp)
    replace A3_16 := arrF_store A3_16 hs (by simp) nb_b2_2_ar14_16
    replace A4_16 := arrF_store A4_16 hs (by simp) nb_b2_2_ar15_16
    replace kw := keeps_store kw hs lo_b2_2
    clear hs
    refine tail_assign (v := (.int .i64 (7))) rfl (by rw [y28]; exact Nat.le_of_ble_eq_true rfl) (fun a30 y30 zz30 e3 hr => ?_)
    replace y30 := y30.trans y28; replace zz30 := zz30.trans zz28
    replace e2 := (hr 2 (by decide)).trans e2
    replace e33 := (hr 33 (by decide)).trans e33
    clear hr
    refine tail_nil (hK27 _ _ ?_)
    refine wp_ret ?_
    refine (show bodyPost Try.prog Try.f38 _ .ret _ _ from retCT (v := (.agg #[(.int .u8 (0)), (.int .i64 (0)), (.string (⟨#[]⟩)), (.slice none 0 0), (.slice none 0 0)])) rfl zz30 e2 own_b2_2 agg33 sz33 rfl (fun h => by cases h) rfl e3 ⟨_, rfl, kw, ?_⟩)
    refine ⟨_, by rw [hoe], ?_⟩
    rw [hov]
    exact sf_fr (rdV_mk (lbr rfl) (rd_nil _) (rd_nil _) : Rd W29 (SF w (b7_22 :: (blks hd4_16 ++ (blks hd3_16 ++ (b5_9 :: (b2_2 :: [])))))) (V.d (V.mk (0) (0) (⟨#[]⟩) ([]) ([]))) _)
   ·
    have hk1 : 0 < k → ((sortMb L)[k - 1]).nm ≠ ((sortMb L)[k]).nm := by simp at hc; exact fun h => hc h
    refine wp_skip (hK24 _ _ ?_)
    refine wp_seq_k fun K31 hK31 => ?_
    refine wp_reg (fun k => k ∉ blks hd3_16) (Ψ := fun W => Arr W w.heap.size 9 1 (SF w (b7_22 :: (blks hd4_16 ++ (blks hd3_16 ++ (b5_9 :: (b2_2 :: [])))))) (List.map D.str (List.map Mb.nm ((sortMb L).take k))) va3_16 hd3_16) mixed y26 zz26 (fun W W' k h => h.ext k) A3_16 ?_
    refine .i (fo 3 (hbs rfl e5) Try.underlying33 rfl sz23 rfl) ?_
    refine .i (lo1 (hlc rfl) own_b5_9 nb_b5_9_ar14_16 agg23 sz23 rfl) ?_
    refine .i (fo 0 (hbs rfl e7) Try.underlying67 rfl sz9 rfl) ?_
    refine .i (lo1 (hlc rfl) own_b7_22 nb_b7_22_ar14 agg9 sz9 rfl) ?_
    refine .op (φ := IsD (SF w (b7_22 :: (blks hd4_16 ++ (blks hd3_16 ++ (b5_9 :: (b2_2 :: [])))))) (strsD ([((sortMb L)[k]'hlt).nm]))) (st_d (sub_nbF (fun b hb => List.mem_cons_of_mem _ (List.mem_append_right _ (List.mem_append_left _ hb))))) (sp_bsl (ds := [D.str (((sortMb L)[k]'hlt).nm)]) Try.underlying23 sz9 z9 (lbr rfl) (lbr rfl) ⟨rfl, ((hlc rfl).str hb_v19_22_0), trivial⟩ rfl (by simp [width]) (fr_sf kw (in_cons own_b7_22.lt (in_app A4_16.lt (in_app A3_16.lt (in_cons own_b5_9.lt (in_cons own_b2_2.lt in_nil))))))) ?_
    refine .appB (ds := List.map D.str (List.map Mb.nm ((sortMb L).take k))) (es := [D.str (((sortMb L)[k]'hlt).nm)]) (X := SF w (b7_22 :: (blks hd4_16 ++ (blks hd3_16 ++ (b5_9 :: (b2_2 :: [])))))) Try.underlying23 inf9 (lbr rfl) (hlc rfl) (hlc rfl) (sub_nbF (fun b hb => List.mem_cons_of_mem _ (List.mem_append_right _ (List.mem_append_left _ hb)))) (by simp [maxLen]; omega) (by simp; omega) kw.size ?_
    refine .i (fo 3 (hbs rfl e5) Try.underlying33 rfl sz23 rfl) ?_
    refine .done ⟨by kernel_rfl, fun a32 g W32 y32 zz32 hk hg hV hR hP => ?_⟩
    obtain ⟨e40, e39, -, -, -, -, -, -⟩ := hV
    replace e2 := (hR 2 rfl).trans e2
    replace e4 := (hR 4 rfl).trans e4
    replace e5 := (hR 5 rfl).trans e5
    replace e13 := (hR 13 rfl).trans e13
    replace e14 := (hR 14 rfl).trans e14
    replace e15 := (hR 15 rfl).trans e15
    replace e7 := (hR 7 rfl).trans e7
    obtain ⟨v39_32, ev⟩ : ∃ v, sl a32 39 = v := ⟨_, rfl⟩
    rw [ev] at e39
    obtain ⟨hd39_32, A_39_32, hf39_32⟩ := e39
    have e39 := ev; clear ev
    obtain ⟨v39_32a, v39_32n, v39_32c, ev⟩ := arr_sl A_39_32; subst ev
    replace A_39_32 := arrF_new (M' := (b7_22 :: (blks hd4_16 ++ (blks hd39_32 ++ (b5_9 :: (b2_2 :: [])))))) A_39_32 (rep_cons (rep_app rep_refl (rep_app (rep_q fun _ h => h) (rep_cons (rep_cons rep_nil)))))
    replace A_39_32 : Arr W32 w.heap.size 9 1 (SF w (b7_22 :: (blks hd4_16 ++ (blks hd39_32 ++ (b5_9 :: (b2_2 :: [])))))) (List.map D.str ((List.map Mb.nm ((sortMb L).take k)) ++ [((sortMb L)[k]'hlt).nm])) (.slice v39_32a v39_32n v39_32c) hd39_32 := by first | exact A_39_32 | (rw [List.map_append]; exact A_39_32)
    have nb_b2_2_32 : b2_2 ∉ blks hd39_32 := nb_new nb_b2_2_ar14_16 own_b2_2.lt hf39_32
    have nb_b5_9_32 : b5_9 ∉ blks hd39_32 := nb_new nb_b5_9_ar14_16 own_b5_9.lt hf39_32
    have nb_b7_22_32 : b7_22 ∉ blks hd39_32 := nb_new nb_b7_22_ar14 own_b7_22.lt hf39_32
    have dj_ar15_32 : ∀ b ∈ blks hd4_16, b ∉ blks hd39_32 := dj_new (dj_symm dj_ar14_ar15_16) A4_16.lt hf39_32
    replace A4_16 := arrF_app (M' := (b7_22 :: (blks hd4_16 ++ (blks hd39_32 ++ (b5_9 :: (b2_2 :: [])))))) A4_16 hk (fun b hb => List.mem_cons_of_mem _ (List.mem_append_right _ (List.mem_append_left _ hb))) (rep_cons (rep_app rep_refl (rep_app hf39_32 (rep_cons (rep_cons rep_nil))))) (dj_symm dj_ar14_ar15_16)
    replace D_v9_4 := sa_app (M' := (b7_22 :: (blks hd4_16 ++ (blks hd39_32 ++ (b5_9 :: (b2_2 :: [])))))) D_v9_4 hk (fun b hb => List.mem_cons_of_mem _ (List.mem_append_right _ (List.mem_append_left _ hb))) (rep_cons (rep_app rep_refl (rep_app hf39_32 (rep_cons (rep_cons rep_nil)))))
    replace D_v19_22_4 := sa_app (M' := (b7_22 :: (blks hd4_16 ++ (blks hd39_32 ++ (b5_9 :: (b2_2 :: [])))))) D_v19_22_4 hk (fun b hb => List.mem_cons_of_mem _ (List.mem_append_right _ (List.mem_append_left _ hb))) (rep_cons (rep_app rep_refl (rep_app hf39_32 (rep_cons (rep_cons rep_nil)))))
    replace D_v19_22_5 := sa_app (M' := (b7_22 :: (blks hd4_16 ++ (blks hd39_32 ++ (b5_9 :: (b2_2 :: [])))))) D_v19_22_5 hk (fun b hb => List.mem_cons_of_mem _ (List.mem_append_right _ (List.mem_append_left _ hb))) (rep_cons (rep_app rep_refl (rep_app hf39_32 (rep_cons (rep_cons rep_nil)))))
    replace own_b2_2 := own_app own_b2_2 hk nb_b2_2_ar14_16
    replace own_b5_9 := own_app own_b5_9 hk nb_b5_9_ar14_16
    replace own_b7_22 := own_app own_b7_22 hk nb_b7_22_ar14
    replace kw := keeps_app kw hk A3_16.ge
    have e40 : sl a32 40 = (.pointer (some ⟨b5_9, 3, none⟩)) := e40
    clear hR hk hg hP hf39_32 A3_16
    refine tail_store (b := b5_9) (o := 3) (v := (.slice v39_32a v39_32n v39_32c)) e40 e39 sz23 rfl own_b5_9 (lbr rfl) (all_cons rfl all_nil) (fun W33 hs own_b5_9 => ?_)
    have own_b5_9 : Own W33 b5_9 [(.int .u8 (5)), (.int .i64 (0)), (.string (⟨#[]⟩)), (.slice v39_32a v39_32n v39_32c), va4_16] 33 := own_b5_9
    replace own_b2_2 := own_store own_b2_2 hs ne_b2_2_b5_9
    replace own_b7_22 := own_store own_b7_22 hs ne_b5_9_b7_22.symm
    replace D_v9_4 := sa_store D_v9_4 hs (by simp)
    replace D_v19_22_4 := sa_store D_v19_22_4 hs (by simp)
    replace D_v19_22_5 := sa_store D_v19_22_5 hs (by simp)
    replace A_39_32 := arrF_store A_39_32 hs (by simp) nb_b5_9_32
    replace A4_16 := arrF_store A4_16 hs (by simp) nb_b5_9_ar15_16
    replace kw := keeps_store kw hs lo_b5_9
    clear hs
    refine tail_nil (hK31 _ _ ?_)
    refine wp_reg (fun k => k ∉ blks hd4_16) (Ψ := fun W => Arr W w.heap.size 33 5 (SF w (b7_22 :: (blks hd4_16 ++ (blks hd39_32 ++ (b5_9 :: (b2_2 :: [])))))) (List.map V.d (List.map Mb.v ((sortMb L).take k))) va4_16 hd4_16) mixed y32 zz32 (fun W W' k h => h.ext k) A4_16 ?_
    refine .i (fo 4 (hbs rfl e5) Try.underlying33 rfl sz31 rfl) ?_
    refine .i (lo1 (hlc rfl) own_b5_9 nb_b5_9_ar15_16 agg31 sz31 rfl) ?_
    refine .i (fo 1 (hbs rfl e7) Try.underlying67 rfl sz33 rfl) ?_
    refine .i (v := (.agg #[(.int .u8 (((sortMb L)[k]'hlt).v.k)), (.int .i64 (((sortMb L)[k]'hlt).v.n)), (.string (((sortMb L)[k]'hlt).v.t)), (.slice v19_22_4a ((((sortMb L)[k]'hlt).v.ns).length) v19_22_4c), (.slice v19_22_5a ((((sortMb L)[k]'hlt).v.xs).length) v19_22_5c)])) (loA (hlc rfl) own_b7_22 nb_b7_22_ar15 agg33 sz33 rfl rfl) ?_
    refine .op (φ := IsD (Fr W33) (V.d (((sortMb L)[k]'hlt).v))) (st_d (sub_frnb (fun b hb => A4_16.lt b hb))) (sp_call1 (φ1 := IsD (SA w S (b7_22 :: (blks hd4_16 ++ (blks hd39_32 ++ (b5_9 :: (b2_2 :: [])))))) (V.d (((sortMb L)[k]'hlt).v))) ent79 ((hlc rfl).dat (rdV_in (x := ((sortMb L)[k]'hlt).v) hb_v19_22_3 D_v19_22_4 D_v19_22_5 : Rd W33 (SA w S (b7_22 :: (blks hd4_16 ++ (blks hd39_32 ++ (b5_9 :: (b2_2 :: [])))))) (V.d (((sortMb L)[k]'hlt).v)) _) (sub_nb (fun b hb => List.mem_cons_of_mem _ (List.mem_append_left _ hb)))) (fun g u1 W hk hgk h1 => (Copy_ok (((sortMb L)[k]'hlt).v) (by first | omega | exact Nat.le_of_ble_eq_true (by kernel_rfl)) W _ _ (fun b o h => sa_cln hS b o h.1) h1).mono (ret_fr hk hgk))) ?_
    refine .op (φ := IsD (SF w (b7_22 :: (blks hd4_16 ++ (blks hd39_32 ++ (b5_9 :: (b2_2 :: [])))))) (valsD ([((sortMb L)[k]'hlt).v]))) (st_d (sub_nbF (fun b hb => List.mem_cons_of_mem _ (List.mem_append_left _ hb)))) (sp_bsl (ds := [V.d (((sortMb L)[k]'hlt).v)]) Try.underlying31 sz33 z33 (lbr rfl) (lbr rfl) ⟨rfl, ((hlc rfl).sup (fr_sf kw (in_cons own_b7_22.lt (in_app A4_16.lt (in_app A_39_32.lt (in_cons own_b5_9.lt (in_cons own_b2_2.lt in_nil))))))), trivial⟩ rfl (by intro e he; simp at he; rcases he with rfl <;> exact width_V _) (fr_sf kw (in_cons own_b7_22.lt (in_app A4_16.lt (in_app A_39_32.lt (in_cons own_b5_9.lt (in_cons own_b2_2.lt in_nil))))))) ?_
    refine .appB (ds := List.map V.d (List.map Mb.v ((sortMb L).take k))) (es := [V.d (((sortMb L)[k]'hlt).v)]) (X := SF w (b7_22 :: (blks hd4_16 ++ (blks hd39_32 ++ (b5_9 :: (b2_2 :: [])))))) Try.underlying31 inf33 (lbr rfl) (hlc rfl) (hlc rfl) (sub_nbF (fun b hb => List.mem_cons_of_mem _ (List.mem_append_left _ hb))) (by simp [maxLen]; omega) (by simp; omega) kw.size ?_
    refine .i (fo 4 (hbs rfl e5) Try.underlying33 rfl sz31 rfl) ?_
    refine .done ⟨by kernel_rfl, fun a34 g W34 y34 zz34 hk hg hV hR hP => ?_⟩
    obtain ⟨e48, e47, -, -, -, -, -, -, -⟩ := hV
    replace e2 := (hR 2 rfl).trans e2
    replace e4 := (hR 4 rfl).trans e4
    replace e5 := (hR 5 rfl).trans e5
    replace e13 := (hR 13 rfl).trans e13
    replace e14 := (hR 14 rfl).trans e14
    replace e15 := (hR 15 rfl).trans e15
    obtain ⟨v47_34, ev⟩ : ∃ v, sl a34 47 = v := ⟨_, rfl⟩
    rw [ev] at e47
    obtain ⟨hd47_34, A_47_34, hf47_34⟩ := e47
    have e47 := ev; clear ev
    obtain ⟨v47_34a, v47_34n, v47_34c, ev⟩ := arr_sl A_47_34; subst ev
    replace A_47_34 := arrF_new (M' := (b7_22 :: (blks hd47_34 ++ (blks hd39_32 ++ (b5_9 :: (b2_2 :: [])))))) A_47_34 (rep_cons (rep_app (rep_q fun _ h => h) (rep_app rep_refl (rep_cons (rep_cons rep_nil)))))
    replace A_47_34 : Arr W34 w.heap.size 33 5 (SF w (b7_22 :: (blks hd47_34 ++ (blks hd39_32 ++ (b5_9 :: (b2_2 :: [])))))) (List.map V.d ((List.map Mb.v ((sortMb L).take k)) ++ [((sortMb L)[k]'hlt).v])) (.slice v47_34a v47_34n v47_34c) hd47_34 := by first | exact A_47_34 | (rw [List.map_append]; exact A_47_34)
    have nb_b2_2_34 : b2_2 ∉ blks hd47_34 := nb_new nb_b2_2_ar15_16 own_b2_2.lt hf47_34
    have nb_b5_9_34 : b5_9 ∉ blks hd47_34 := nb_new nb_b5_9_ar15_16 own_b5_9.lt hf47_34
    have nb_b7_22_34 : b7_22 ∉ blks hd47_34 := nb_new nb_b7_22_ar15 own_b7_22.lt hf47_34
    have dj_ar14_34 : ∀ b ∈ blks hd39_32, b ∉ blks hd47_34 := dj_new (dj_symm dj_ar15_32) A_39_32.lt hf47_34
    replace A_39_32 := arrF_app (M' := (b7_22 :: (blks hd47_34 ++ (blks hd39_32 ++ (b5_9 :: (b2_2 :: [])))))) A_39_32 hk (fun b hb => List.mem_cons_of_mem _ (List.mem_append_left _ hb)) (rep_cons (rep_app hf47_34 (rep_app rep_refl (rep_cons (rep_cons rep_nil))))) (dj_symm dj_ar15_32)
    replace D_v9_4 := sa_app (M' := (b7_22 :: (blks hd47_34 ++ (blks hd39_32 ++ (b5_9 :: (b2_2 :: [])))))) D_v9_4 hk (fun b hb => List.mem_cons_of_mem _ (List.mem_append_left _ hb)) (rep_cons (rep_app hf47_34 (rep_app rep_refl (rep_cons (rep_cons rep_nil)))))
    replace D_v19_22_4 := sa_app (M' := (b7_22 :: (blks hd47_34 ++ (blks hd39_32 ++ (b5_9 :: (b2_2 :: [])))))) D_v19_22_4 hk (fun b hb => List.mem_cons_of_mem _ (List.mem_append_left _ hb)) (rep_cons (rep_app hf47_34 (rep_app rep_refl (rep_cons (rep_cons rep_nil)))))
    replace D_v19_22_5 := sa_app (M' := (b7_22 :: (blks hd47_34 ++ (blks hd39_32 ++ (b5_9 :: (b2_2 :: [])))))) D_v19_22_5 hk (fun b hb => List.mem_cons_of_mem _ (List.mem_append_left _ hb)) (rep_cons (rep_app hf47_34 (rep_app rep_refl (rep_cons (rep_cons rep_nil)))))
    replace own_b2_2 := own_app own_b2_2 hk nb_b2_2_ar15_16
    replace own_b5_9 := own_app own_b5_9 hk nb_b5_9_ar15_16
    replace own_b7_22 := own_app own_b7_22 hk nb_b7_22_ar15
    replace kw := keeps_app kw hk A4_16.ge
    have e48 : sl a34 48 = (.pointer (some ⟨b5_9, 4, none⟩)) := e48
    clear hR hk hg hP hf47_34 A4_16
    refine tail_store (b := b5_9) (o := 4) (v := (.slice v47_34a v47_34n v47_34c)) e48 e47 sz31 rfl own_b5_9 (lbr rfl) (all_cons rfl all_nil) (fun W35 hs own_b5_9 => ?_)
    have own_b5_9 : Own W35 b5_9 [(.int .u8 (5)), (.int .i64 (0)), (.string (⟨#[]⟩)), (.slice v39_32a v39_32n v39_32c), (.slice v47_34a v47_34n v47_34c)] 33 := own_b5_9
    replace own_b2_2 := own_store own_b2_2 hs ne_b2_2_b5_9
    replace own_b7_22 := own_store own_b7_22 hs ne_b5_9_b7_22.symm
    replace D_v9_4 := sa_store D_v9_4 hs (by simp)
    replace D_v19_22_4 := sa_store D_v19_22_4 hs (by simp)
    replace D_v19_22_5 := sa_store D_v19_22_5 hs (by simp)
    replace A_39_32 := arrF_store A_39_32 hs (by simp) nb_b5_9_32
    replace A_47_34 := arrF_store A_47_34 hs (by simp) nb_b5_9_34
    replace kw := keeps_store kw hs lo_b5_9
    clear hs
    refine tail_nil (hK20 _ _ ?_)
    refine rg mixed y34 zz34 ?_
    refine .i (sp_add (hbs rfl e15) Has.cst (i64_in (by omega))) ?_
    refine .i (sp_move (hlc rfl)) ?_
    refine .done ⟨by kernel_rfl, fun a36 g W36 y36 zz36 hk hg hV hR hP => ?_⟩
    obtain ⟨e15, -, -⟩ := hV
    replace e2 := (hR 2 rfl).trans e2
    replace e4 := (hR 4 rfl).trans e4
    replace e5 := (hR 5 rfl).trans e5
    replace e13 := (hR 13 rfl).trans e13
    replace e14 := (hR 14 rfl).trans e14
    replace A_39_32 := A_39_32.ext hk
    replace A_47_34 := A_47_34.ext hk
    replace D_v9_4 := D_v9_4.ext hk
    replace e15 := e15.q
    replace own_b2_2 := own_b2_2.ext hk
    replace own_b5_9 := own_b5_9.ext hk
    replace own_b7_22 := own_b7_22.ext hk
    replace kw := kw.x hk
    clear hR hk hg hP
    rw [show (List.map Mb.nm ((sortMb L).take k)) ++ [((sortMb L)[k]'hlt).nm] = List.map Mb.nm ((sortMb L).take (k + 1)) by rw [List.take_succ_eq_append_getElem hlt, List.map_append]; rfl] at A_39_32
    rw [show (List.map Mb.v ((sortMb L).take k)) ++ [((sortMb L)[k]'hlt).v] = List.map Mb.v ((sortMb L).take (k + 1)) by rw [List.take_succ_eq_append_getElem hlt, List.map_append]; rfl] at A_47_34
    exact tail_nil ⟨hlt, (.slice v39_32a v39_32n v39_32c), hd39_32, (.slice v47_34a v47_34n v47_34c), hd47_34, y36, zz36, kw, e2, e4, e5, e13, e14, (e15.trans (congrArg (Value.int .i64) (by simp))), own_b2_2, own_b5_9, (sa_less D_v9_4 (ls_skip (ls_keepA (ls_keepA (ls_keep (ls_keep ls_nil)))))), (arrF_less A_39_32 (ls_skip (ls_keepA (ls_keepA (ls_keep (ls_keep ls_nil)))))), nb_b2_2_32, nb_b5_9_32, (arrF_less A_47_34 (ls_skip (ls_keepA (ls_keepA (ls_keep (ls_keep ls_nil)))))), nb_b2_2_34, nb_b5_9_34, dj_ar14_34, fun i h hi => by rcases Nat.lt_succ_iff_lt_or_eq.1 hi with h1 | h1; exact hinv i h h1; subst h1; exact hk1 (by omega)⟩
  ·
   have hge0 : ¬ k < (sortMb L).length := by simpa using hc
   have hge : k = (sortMb L).length := by omega
   have hadj : adj (sortMb L) = false := adj_false _ fun i h => hinv i h (by omega)
   have hoe : objE L = 0 := by rw [objE, hadj]; rfl
   have hov : objM L = ⟨5, 0, ⟨#[]⟩, (sortMb L).map Mb.nm, (sortMb L).map Mb.v⟩ := by rw [objM, hadj]; rfl
   rw [show List.map Mb.nm ((sortMb L).take k) = List.map Mb.nm (sortMb L) by rw [hge, List.take_length]] at A3_16
   have D_va3_16 : Rd W18 (SF w (blks hd4_16 ++ (b5_9 :: (b2_2 :: [])))) (strsD (List.map Mb.nm (sortMb L))) va3_16 := arrF_rd A3_16 (ls_keepA (ls_skipA (ls_keep (ls_keep ls_nil)))) (nin_app dj_ar14_ar15_16 (nin_cons nb_b5_9_ar14_16 (nin_cons nb_b2_2_ar14_16 nin_nil)))
   obtain ⟨va3_16a, va3_16c, ev, D2⟩ := rdS_out D_va3_16
   subst ev; replace D_va3_16 := D2; clear D2
   replace D_v9_4 := sa_less (M' := (blks hd4_16 ++ (b5_9 :: (b2_2 :: [])))) D_v9_4 (ls_keepA (ls_skipA (ls_keep (ls_keep ls_nil))))
   replace A4_16 := arrF_less (M' := (blks hd4_16 ++ (b5_9 :: (b2_2 :: [])))) A4_16 (ls_keepA (ls_skipA (ls_keep (ls_keep ls_nil))))
   rw [show List.map Mb.v ((sortMb L).take k) = List.map Mb.v (sortMb L) by rw [hge, List.take_length]] at A4_16
   have D_va4_16 : Rd W18 (SF w [b5_9, b2_2]) (valsD (List.map Mb.v (sortMb L))) va4_16 := arrF_rd A4_16 (ls_skipA (ls_keep (ls_keep ls_nil))) (nin_cons nb_b5_9_ar15_16 (nin_cons nb_b2_2_ar15_16 nin_nil))
   obtain ⟨va4_16a, va4_16c, ev, D2⟩ := rdVs_out D_va4_16
   subst ev; replace D_va4_16 := D2; clear D2
   replace D_v9_4 := sa_less (M' := [b5_9, b2_2]) D_v9_4 (ls_skipA (ls_keep (ls_keep ls_nil)))
   replace D_va3_16 := sf_less (M' := [b5_9, b2_2]) D_va3_16 (ls_skipA (ls_keep (ls_keep ls_nil)))
   refine wp_exit (hK11 _ _ ?_)
   refine wp_seq_k fun K37 hK37 => ?_
   refine rg mixed y18 zz18 ?_
   refine .i (v := (.agg #[(.int .u8 (5)), (.int .i64 (0)), (.string (⟨#[]⟩)), (.slice va3_16a ((List.map Mb.nm (sortMb L)).length) va3_16c), (.slice va4_16a ((List.map Mb.v (sortMb L)).length) va4_16c)])) (loA (hbs rfl e5) own_b5_9 trivial agg33 sz33 rfl rfl) ?_
   refine .done ⟨by kernel_rfl, fun a38 g W38 y38 zz38 hk hg hV hR hP => ?_⟩
   obtain ⟨e50, -⟩ := hV
   replace e2 := (hR 2 rfl).trans e2
   replace D_v9_4 := D_v9_4.ext hk
   replace D_va3_16 := D_va3_16.ext hk
   replace D_va4_16 := D_va4_16.ext hk
   replace e50 := e50.q
   replace own_b2_2 := own_b2_2.ext hk
   replace own_b5_9 := own_b5_9.ext hk
   replace kw := kw.x hk
   clear hR hk hg hP
   refine tail_store (b := b2_2) (o := 0) (v := (.agg #[(.int .u8 (5)), (.int .i64 (0)), (.string (⟨#[]⟩)), (.slice va3_16a ((List.map Mb.nm (sortMb L)).length) va3_16c), (.slice va4_16a ((List.map Mb.v (sortMb L)).length) va4_16c)])) e2 e50 sz33 rfl own_b2_2 (lbr rfl) (all_cons rfl (all_cons rfl (all_cons rfl (all_cons rfl (all_cons rfl all_nil))))) (fun W39 hs own_b2_2 => ?_)
   have own_b2_2 : Own W39 b2_2 [(.int .u8 (5)), (.int .i64 (0)), (.string (⟨#[]⟩)), (.slice va3_16a ((List.map Mb.nm (sortMb L)).length) va3_16c), (.slice va4_16a ((List.map Mb.v (sortMb L)).length) va4_16c)] 33 := own_b2_2
   replace own_b5_9 := own_store own_b5_9 hs ne_b2_2_b5_9.symm
   replace D_v9_4 := sa_store D_v9_4 hs (by simp)
   replace D_va3_16 := sf_store D_va3_16 hs (by simp)
   replace D_va4_16 := sf_store D_va4_16 hs (by simp)
   replace kw := keeps_store kw hs lo_b2_2
   clear hs
   refine tail_assign (v := (.int .i64 (0))) rfl (by rw [y38]; exact Nat.le_of_ble_eq_true rfl) (fun a40 y40 zz40 e3 hr => ?_)
   replace y40 := y40.trans y38; replace zz40 := zz40.trans zz38
   replace e2 := (hr 2 (by decide)).trans e2
   replace e50 := (hr 50 (by decide)).trans e50
   clear hr
   refine tail_nil (hK37 _ _ ?_)
   refine wp_ret ?_
   refine (show bodyPost Try.prog Try.f38 _ .ret _ _ from retCT (v := (.agg #[(.int .u8 (5)), (.int .i64 (0)), (.string (⟨#[]⟩)), (.slice va3_16a ((List.map Mb.nm (sortMb L)).length) va3_16c), (.slice va4_16a ((List.map Mb.v (sortMb L)).length) va4_16c)])) rfl zz40 e2 own_b2_2 agg33 sz33 rfl (fun h => by cases h) rfl e3 ⟨_, rfl, kw, ?_⟩)
   refine ⟨_, by rw [hoe], ?_⟩
   rw [hov]
   exact sf_fr (rdV_mk (lbr rfl) D_va3_16 D_va4_16 : Rd W39 (SF w [b5_9, b2_2]) (V.d (V.mk (5) (0) (⟨#[]⟩) (List.map Mb.nm (sortMb L)) (List.map Mb.v (sortMb L)))) _)
end Go.Proofs.Ytnobijngkpflcaa
namespace Go.Proofs.Ytnobijngkpflcaa
open Go.Eng
set_option maxRecDepth 100000 in
theorem pkTexts_ok (ns : List ByteArray) (hn : ns.length ≤ 1073741824) (w : World) (S : BSet) (v : Value) (hv : Rd w S (strsD ns) v) : Calls Try.prog 113 #[v] w (Ret w fun u W => Rd W (Fr w) (txtsV ns).d u) := by
  obtain ⟨va, vc, ev, D_v⟩ := rdS_out (rd_arg hv)
  subst ev
  refine enter Try.func113 rfl Try.ntmps113 (lbr rfl) fun a0 y0 zz0 harg => ?_
  have e0 : sl a0 0 = (.slice va (ns.length) vc) := harg 0 (lbr rfl)
  have kw := Keeps.refl All w
  clear harg
  refine wp_seq_k fun K1 hK1 => ?_
  refine rg mixed y0 zz0 ?_
  refine .alloc z33 ?_
  refine .done ⟨by kernel_rfl, fun a2 g W2 y2 zz2 hk hg hV hR hP => ?_⟩
  obtain ⟨⟨b2_2, e2, hb2, own_b2_2⟩, -⟩ := hV
  have lo_b2_2 : w.heap.size ≤ b2_2 := Nat.le_trans kw.size (hg.lo _ _ hb2)
  have own_b2_2 : Own W2 b2_2 [(.int .u8 (0)), (.int .i64 (0)), (.string (⟨#[]⟩)), (.slice none 0 0), (.slice none 0 0)] 33 := own_b2_2
  replace e0 := (hR 0 rfl).trans e0
  replace D_v := sa_more D_v hk [b2_2] (in_cons (hg.lo _ _ hb2) in_nil)
  replace kw := kw.x hk
  clear hR hk hg hP hb2
  refine tail_nil (hK1 _ _ ?_)
  refine wp_seq_k fun K3 hK3 => ?_
  refine rg mixed y2 zz2 ?_
  refine .i (v := (.agg #[(.int .u8 (4)), (.int .i64 (0)), (.string (⟨#[]⟩)), (.slice none 0 0), (.slice none 0 0)])) (sp_build (vs := [(0, (.int .u8 (4)))]) Try.underlying33 z33 (pl33 Try.underlying33) ⟨rfl, Has.cst, trivial⟩ rfl) ?_
  refine .alloc z33 ?_
  refine .done ⟨by kernel_rfl, fun a4 g W4 y4 zz4 hk hg hV hR hP => ?_⟩
  obtain ⟨⟨b3_4, e3, hb3, own_b3_4⟩, e6, -⟩ := hV
  have lo_b3_4 : w.heap.size ≤ b3_4 := Nat.le_trans kw.size (hg.lo _ _ hb3)
  have ne_b2_2_b3_4 : b2_2 ≠ b3_4 := Nat.ne_of_lt (Nat.lt_of_lt_of_le own_b2_2.lt (hg.lo _ _ hb3))
  have own_b3_4 : Own W4 b3_4 [(.int .u8 (0)), (.int .i64 (0)), (.string (⟨#[]⟩)), (.slice none 0 0), (.slice none 0 0)] 33 := own_b3_4
  replace e0 := (hR 0 rfl).trans e0
  replace e2 := (hR 2 rfl).trans e2
  replace D_v := sa_more D_v hk [b3_4] (in_cons (hg.lo _ _ hb3) in_nil)
  replace e6 := e6.q
  replace own_b2_2 := own_b2_2.ext hk
  replace kw := kw.x hk
  clear hR hk hg hP hb3
  refine tail_store (b := b3_4) (o := 0) (v := (.agg #[(.int .u8 (4)), (.int .i64 (0)), (.string (⟨#[]⟩)), (.slice none 0 0), (.slice none 0 0)])) e3 e6 sz33 rfl own_b3_4 (lbr rfl) (all_cons rfl (all_cons rfl (all_cons rfl (all_cons rfl (all_cons rfl all_nil))))) (fun W5 hs own_b3_4 => ?_)
  have own_b3_4 : Own W5 b3_4 [(.int .u8 (4)), (.int .i64 (0)), (.string (⟨#[]⟩)), (.slice none 0 0), (.slice none 0 0)] 33 := own_b3_4
  replace own_b2_2 := own_store own_b2_2 hs ne_b2_2_b3_4
  replace D_v := sa_store D_v hs (by simp)
  replace kw := keeps_store kw hs lo_b3_4
  clear hs
  refine tail_nil (hK3 _ _ ?_)
  refine wp_seq_k fun K6 hK6 => ?_
  refine wp_seq_k fun K7 hK7 => ?_
  refine rg mixed y4 zz4 ?_
  refine .i (sp_move (hbs rfl e0)) ?_
  refine .i (sp_lenSs Try.underlying23 ((hlc rfl).dat D_v sub_all)) ?_
  refine .i (sp_move Has.cst) ?_
  refine .done ⟨by kernel_rfl, fun a8 g W8 y8 zz8 hk hg hV hR hP => ?_⟩
  obtain ⟨e9, e8, e7, -⟩ := hV
  replace e2 := (hR 2 rfl).trans e2
  replace e3 := (hR 3 rfl).trans e3
  replace D_v := D_v.ext hk
  have e7 : sl a8 7 = (.slice va (ns.length) vc) := e7
  have e8 : sl a8 8 = (.int .i64 (ns.length)) := e8
  have e9 : sl a8 9 = (.int .i64 (0)) := e9
  replace own_b2_2 := own_b2_2.ext hk
  replace own_b3_4 := own_b3_4.ext hk
  replace kw := kw.x hk
  clear hR hk hg hP
  refine tail_nil (hK7 _ _ ?_)
  refine wp_block ?_
  have A_ar9 : Arr W8 w.heap.size 33 5 (SF w (blks none ++ (b3_4 :: (b2_2 :: [])))) (List.map V.d ([])) (.slice none 0 0) none := arr_nil _ _ _ _ _
  replace D_v : Rd W8 (SA w S (blks none ++ (b3_4 :: (b2_2 :: [])))) (strsD (ns)) (.slice va (ns.length) vc) := D_v
  refine wp_for (ns.length) (fun k a W => ∃ (va4_10 : Value), ∃ (hd4_10 : Option Nat), a.tmps.size = 22 ∧ a.defers = [] ∧ Keeps All w W ∧ sl a 2 = (.pointer (some ⟨b2_2, 0, none⟩)) ∧ sl a 3 = (.pointer (some ⟨b3_4, 0, none⟩)) ∧ sl a 7 = (.slice va (ns.length) vc) ∧ sl a 8 = (.int .i64 (ns.length)) ∧ sl a 9 = (.int .i64 ((k : Nat))) ∧ Own W b2_2 [(.int .u8 (0)), (.int .i64 (0)), (.string (⟨#[]⟩)), (.slice none 0 0), (.slice none 0 0)] 33 ∧ Own W b3_4 [(.int .u8 (4)), (.int .i64 (0)), (.string (⟨#[]⟩)), (.slice none 0 0), va4_10] 33 ∧ Rd W (SA w S (blks hd4_10 ++ (b3_4 :: (b2_2 :: [])))) (strsD (ns)) (.slice va (ns.length) vc) ∧ Arr W w.heap.size 33 5 (SF w (blks hd4_10 ++ (b3_4 :: (b2_2 :: [])))) (List.map V.d (List.map txtV (ns.take k))) va4_10 hd4_10 ∧ b2_2 ∉ blks hd4_10 ∧ b3_4 ∉ blks hd4_10) ⟨(.slice none 0 0), none, y8, zz8, kw, e2, e3, e7, e8, (e9.trans (congrArg (Value.int .i64) (rfl))), own_b2_2, own_b3_4, D_v, A_ar9, nb_none, nb_none⟩ ?_
  clear kw e2 e3 e7 e8 e9 own_b2_2 own_b3_4 D_v A_ar9
  rintro k a10 W10 hkk ⟨va4_10, hd4_10, y10, zz10, kw, e2, e3, e7, e8, e9, own_b2_2, own_b3_4, D_v, A4_10, nb_b2_2_ar9_10, nb_b3_4_ar9_10⟩
  refine wp_seq_k fun K11 hK11 => ?_
  refine rg mixed y10 zz10 ?_
  refine .i (sp_lss (hbs rfl e9) (hbs rfl e8)) ?_
  refine .done ⟨by kernel_rfl, fun a12 g W12 y12 zz12 hk hg hV hR hP => ?_⟩
  obtain ⟨e10, -⟩ := hV
  replace e2 := (hR 2 rfl).trans e2
  replace e3 := (hR 3 rfl).trans e3
  replace e7 := (hR 7 rfl).trans e7
  replace e8 := (hR 8 rfl).trans e8
  replace e9 := (hR 9 rfl).trans e9
  replace A4_10 := A4_10.ext hk
  replace D_v := D_v.ext hk
  replace e10 := e10.q
  replace own_b2_2 := own_b2_2.ext hk
  replace own_b3_4 := own_b3_4.ext hk
  replace kw := kw.x hk
  clear hR hk hg hP
  refine tail_nil (hK11 _ _ ?_)
  refine wp_seq_k fun K13 hK13 => ?_
  refine wp_cond_split e10 (fun hc => ?_) (fun hc => ?_)
  ·
   have hlt : k < ns.length := by simpa using hc
   refine wp_skip (hK13 _ _ ?_)
   refine wp_seq_k fun K14 hK14 => ?_
   refine wp_block ?_
   refine wp_seq_k fun K15 hK15 => ?_
   refine rg mixed y12 zz12 ?_
   refine .rf (sp_indexS (i := k) ((hbs rfl e7).dat D_v sub_all) (hbs rfl e9) Try.underlying23 sz9 rfl hlt) ?_
   refine .i (sp_loadStr (hlc rfl) agg9 sz9) ?_
   refine .i (sp_assign (hlc rfl)) ?_
   refine .done ⟨by kernel_rfl, fun a16 g W16 y16 zz16 hk hg hV hR hP => ?_⟩
   obtain ⟨e5, -, -, -⟩ := hV
   replace e2 := (hR 2 rfl).trans e2
   replace e3 := (hR 3 rfl).trans e3
   replace e7 := (hR 7 rfl).trans e7
   replace e8 := (hR 8 rfl).trans e8
   replace e9 := (hR 9 rfl).trans e9
   replace A4_10 := A4_10.ext hk
   replace D_v := D_v.ext hk
   have e5 : sl a16 5 = (.string (ns[k]'hlt)) := e5
   replace own_b2_2 := own_b2_2.ext hk
   replace own_b3_4 := own_b3_4.ext hk
   replace kw := kw.x hk
   clear hR hk hg hP
   refine tail_nil (hK15 _ _ ?_)
   refine wp_reg (fun k => k ∉ blks hd4_10) (Ψ := fun W => Arr W w.heap.size 33 5 (SF w (blks hd4_10 ++ (b3_4 :: (b2_2 :: [])))) (List.map V.d (List.map txtV (ns.take k))) va4_10 hd4_10) mixed y16 zz16 (fun W W' k h => h.ext k) A4_10 ?_
   refine .i (fo 4 (hbs rfl e3) Try.underlying33 rfl sz31 rfl) ?_
   refine .i (lo1 (hlc rfl) own_b3_4 nb_b3_4_ar9_10 agg31 sz31 rfl) ?_
   refine .i (sp_move (hbs rfl e5)) ?_
   refine .i (v := (.agg #[(.int .u8 (3)), (.int .i64 (0)), (.string (ns[k]'hlt)), (.slice none 0 0), (.slice none 0 0)])) (sp_call1 (φ1 := Is (.string (ns[k]'hlt))) ent37 (hlc rfl) (fun g u1 W hk hgk h1 => by have h1 : u1 = _ := h1; subst u1; exact pkText_ok (ns[k]'hlt) W)) ?_
   refine .op (φ := IsD (SF w (blks hd4_10 ++ (b3_4 :: (b2_2 :: [])))) (valsD ([V.mk (3) (0) (ns[k]'hlt) ([]) ([])]))) (st_d (sub_nbF (fun b hb => List.mem_append_left _ hb))) (sp_bsl (ds := [V.d (V.mk (3) (0) (ns[k]'hlt) ([]) ([]))]) Try.underlying31 sz33 z33 (lbr rfl) (lbr rfl) ⟨rfl, ((hlc rfl).dat (rdV_mk (rd_strAt D_v k hlt) (rd_nil _) (rd_nil _) : Rd W16 (SF w (blks hd4_10 ++ (b3_4 :: (b2_2 :: [])))) (V.d (V.mk (3) (0) (ns[k]'hlt) ([]) ([]))) _) (sub_nbF (fun b hb => List.mem_append_left _ hb))), trivial⟩ rfl (by intro e he; simp at he; rcases he with rfl <;> exact width_V _) (fr_sf kw (in_app A4_10.lt (in_cons own_b3_4.lt (in_cons own_b2_2.lt in_nil))))) ?_
   refine .appB (ds := List.map V.d (List.map txtV (ns.take k))) (es := [V.d (V.mk (3) (0) (ns[k]'hlt) ([]) ([]))]) (X := SF w (blks hd4_10 ++ (b3_4 :: (b2_2 :: [])))) Try.underlying31 inf33 (lbr rfl) (hlc rfl) (hlc rfl) (sub_nbF (fun b hb => List.mem_append_left _ hb)) (by simp [maxLen]; omega) (by simp; omega) kw.size ?_
   refine .i (fo 4 (hbs rfl e3) Try.underlying33 rfl sz31 rfl) ?_
   refine .done ⟨by kernel_rfl, fun a17 g W17 y17 zz17 hk hg hV hR hP => ?_⟩
   obtain ⟨e19, e18, -, -, -, -, -, -⟩ := hV
   replace e2 := (hR 2 rfl).trans e2
   replace e3 := (hR 3 rfl).trans e3
   replace e7 := (hR 7 rfl).trans e7
   replace e8 := (hR 8 rfl).trans e8
   replace e9 := (hR 9 rfl).trans e9
   obtain ⟨v18_17, ev⟩ : ∃ v, sl a17 18 = v := ⟨_, rfl⟩
   rw [ev] at e18
   obtain ⟨hd18_17, A_18_17, hf18_17⟩ := e18
   have e18 := ev; clear ev
   obtain ⟨v18_17a, v18_17n, v18_17c, ev⟩ := arr_sl A_18_17; subst ev
   replace A_18_17 := arrF_new (M' := (blks hd18_17 ++ (b3_4 :: (b2_2 :: [])))) A_18_17 (rep_app (rep_q fun _ h => h) (rep_cons (rep_cons rep_nil)))
   replace A_18_17 : Arr W17 w.heap.size 33 5 (SF w (blks hd18_17 ++ (b3_4 :: (b2_2 :: [])))) (List.map V.d ((List.map txtV (ns.take k)) ++ [V.mk (3) (0) (ns[k]'hlt) ([]) ([])])) (.slice v18_17a v18_17n v18_17c) hd18_17 := by first | exact A_18_17 | (rw [List.map_append]; exact A_18_17)
   have nb_b2_2_17 : b2_2 ∉ blks hd18_17 := nb_new nb_b2_2_ar9_10 own_b2_2.lt hf18_17
   have nb_b3_4_17 : b3_4 ∉ blks hd18_17 := nb_new nb_b3_4_ar9_10 own_b3_4.lt hf18_17
   replace D_v := sa_app (M' := (blks hd18_17 ++ (b3_4 :: (b2_2 :: [])))) D_v hk (fun b hb => List.mem_append_left _ hb) (rep_app hf18_17 (rep_cons (rep_cons rep_nil)))
   replace own_b2_2 := own_app own_b2_2 hk nb_b2_2_ar9_10
   replace own_b3_4 := own_app own_b3_4 hk nb_b3_4_ar9_10
   replace kw := keeps_app kw hk A4_10.ge
   have e19 : sl a17 19 = (.pointer (some ⟨b3_4, 4, none⟩)) := e19
   clear hR hk hg hP hf18_17 A4_10
   refine tail_store (b := b3_4) (o := 4) (v := (.slice v18_17a v18_17n v18_17c)) e19 e18 sz31 rfl own_b3_4 (lbr rfl) (all_cons rfl all_nil) (fun W18 hs own_b3_4 => ?_)
   have own_b3_4 : Own W18 b3_4 [(.int .u8 (4)), (.int .i64 (0)), (.string (⟨#[]⟩)), (.slice none 0 0), (.slice v18_17a v18_17n v18_17c)] 33 := own_b3_4
   replace own_b2_2 := own_store own_b2_2 hs ne_b2_2_b3_4
   replace D_v := sa_store D_v hs (by simp)
   replace A_18_17 := arrF_store A_18_17 hs (by simp) nb_b3_4_17
   replace kw := keeps_store kw hs lo_b3_4
   clear hs
   refine tail_nil (hK14 _ _ ?_)
   refine rg mixed y17 zz17 ?_
   refine .i (sp_add (hbs rfl e9) Has.cst (i64_in (by omega))) ?_
   refine .i (sp_move (hlc rfl)) ?_
   refine .done ⟨by kernel_rfl, fun a19 g W19 y19 zz19 hk hg hV hR hP => ?_⟩
   obtain ⟨e9, -, -⟩ := hV
   replace e2 := (hR 2 rfl).trans e2
   replace e3 := (hR 3 rfl).trans e3
   replace e7 := (hR 7 rfl).trans e7
   replace e8 := (hR 8 rfl).trans e8
   replace A_18_17 := A_18_17.ext hk
   replace D_v := D_v.ext hk
   replace e9 := e9.q
   replace own_b2_2 := own_b2_2.ext hk
   replace own_b3_4 := own_b3_4.ext hk
   replace kw := kw.x hk
   clear hR hk hg hP
   rw [show (List.map txtV (ns.take k)) ++ [V.mk (3) (0) (ns[k]'hlt) ([]) ([])] = List.map txtV (ns.take (k + 1)) by rw [List.take_succ_eq_append_getElem hlt, List.map_append]; rfl] at A_18_17
   exact tail_nil ⟨hlt, (.slice v18_17a v18_17n v18_17c), hd18_17, y19, zz19, kw, e2, e3, e7, e8, (e9.trans (congrArg (Value.int .i64) (by simp))), own_b2_2, own_b3_4, D_v, A_18_17, nb_b2_2_17, nb_b3_4_17⟩
  ·
   have hge0 : ¬ k < ns.length := by simpa using hc
   have hge : k = ns.length := by omega
   rw [show List.map txtV (ns.take k) = List.map txtV ns by rw [hge, List.take_length]] at A4_10
   have D_va4_10 : Rd W12 (SF w [b3_4, b2_2]) (valsD (List.map txtV ns)) va4_10 := arrF_rd A4_10 (ls_skipA (ls_keep (ls_keep ls_nil))) (nin_cons nb_b3_4_ar9_10 (nin_cons nb_b2_2_ar9_10 nin_nil))
   obtain ⟨va4_10a, va4_10c, ev, D2⟩ := rdVs_out D_va4_10
   subst ev; replace D_va4_10 := D2; clear D2
   replace D_v := sa_less (M' := [b3_4, b2_2]) D_v (ls_skipA (ls_keep (ls_keep ls_nil)))
   refine wp_exit (hK6 _ _ ?_)
   refine wp_seq_k fun K20 hK20 => ?_
   refine rg mixed y12 zz12 ?_
   refine .i (v := (.agg #[(.int .u8 (4)), (.int .i64 (0)), (.string (⟨#[]⟩)), (.slice none 0 0), (.slice va4_10a ((List.map txtV ns).length) va4_10c)])) (loA (hbs rfl e3) own_b3_4 trivial agg33 sz33 rfl rfl) ?_
   refine .done ⟨by kernel_rfl, fun a21 g W21 y21 zz21 hk hg hV hR hP => ?_⟩
   obtain ⟨e21, -⟩ := hV
   replace e2 := (hR 2 rfl).trans e2
   replace D_v := D_v.ext hk
   replace D_va4_10 := D_va4_10.ext hk
   replace e21 := e21.q
   replace own_b2_2 := own_b2_2.ext hk
   replace own_b3_4 := own_b3_4.ext hk
   replace kw := kw.x hk
   clear hR hk hg hP
   refine tail_store (b := b2_2) (o := 0) (v := (.agg #[(.int .u8 (4)), (.int .i64 (0)), (.string (⟨#[]⟩)), (.slice none 0 0), (.slice va4_10a ((List.map txtV ns).length) va4_10c)])) e2 e21 sz33 rfl own_b2_2 (lbr rfl) (all_cons rfl (all_cons rfl (all_cons rfl (all_cons rfl (all_cons rfl all_nil))))) (fun W22 hs own_b2_2 => ?_)
   have own_b2_2 : Own W22 b2_2 [(.int .u8 (4)), (.int .i64 (0)), (.string (⟨#[]⟩)), (.slice none 0 0), (.slice va4_10a ((List.map txtV ns).length) va4_10c)] 33 := own_b2_2
   replace own_b3_4 := own_store own_b3_4 hs ne_b2_2_b3_4.symm
   replace D_v := sa_store D_v hs (by simp)
   replace D_va4_10 := sf_store D_va4_10 hs (by simp)
   replace kw := keeps_store kw hs lo_b2_2
   clear hs
   refine tail_nil (hK20 _ _ ?_)
   refine wp_ret ?_
   refine (show bodyPost Try.prog Try.f113 _ .ret _ _ from retC (v := (.agg #[(.int .u8 (4)), (.int .i64 (0)), (.string (⟨#[]⟩)), (.slice none 0 0), (.slice va4_10a ((List.map txtV ns).length) va4_10c)])) rfl zz21 e2 own_b2_2 agg33 sz33 rfl (fun h => by cases h) rfl ⟨_, rfl, kw, ?_⟩)
   exact sf_fr (rdV_mk (lbr rfl) (rd_nil _) D_va4_10 : Rd W22 (SF w [b3_4, b2_2]) (V.d (V.mk (4) (0) (⟨#[]⟩) ([]) (List.map txtV ns))) _)
set_option maxRecDepth 100000 in
theorem Members_ok (au : Au) (hn : au.ids.length ≤ 1073741824) (w : World) (S : BSet) (v : Value) (hv : Rd w S au.d v) : Calls Try.prog 51 #[v] w (Ret w fun u W => Rd W (Fr w) (mbsD (authL au)) u) := by
  obtain ⟨p0_1a, p0_1c, ev, D_p0_1⟩ := rdAu_out (rd_arg hv)
  subst ev
  refine enter Try.func51 rfl Try.ntmps51 (lbr rfl) fun a0 y0 zz0 harg => ?_
  have e0 : sl a0 0 = (.agg #[(.int .i64 (au.th)), (.slice p0_1a (au.ids.length) p0_1c)]) := harg 0 (lbr rfl)
  have kw := Keeps.refl All w
  clear harg
  refine wp_seq_k fun K1 hK1 => ?_
  refine rg mixed y0 zz0 ?_
  refine .boxOp (v := (.agg #[(.int .i64 (au.th)), (.slice p0_1a (au.ids.length) p0_1c)])) (hbs rfl e0) ?_
  refine .i (sp_assign Has.cst) ?_
  refine .done ⟨by kernel_rfl, fun a2 g W2 y2 zz2 hk hg hV hR hP => ?_⟩
  obtain ⟨-, ⟨b1_2, e1, hb1, own_b1_2⟩, -⟩ := hV
  have lo_b1_2 : w.heap.size ≤ b1_2 := Nat.le_trans kw.size (hg.lo _ _ hb1)
  have own_b1_2 : Own W2 b1_2 [(.int .i64 (au.th)), (.slice p0_1a (au.ids.length) p0_1c)] 27 := own_b1_2
  replace D_p0_1 := sa_more D_p0_1 hk [b1_2] (in_cons (hg.lo _ _ hb1) in_nil)
  replace kw := kw.x hk
  clear hR hk hg hP hb1
  refine tail_nil (hK1 _ _ ?_)
  refine wp_seq_k fun K3 hK3 => ?_
  refine rg mixed y2 zz2 ?_
  refine .i (fo 1 (hbs rfl e1) Try.underlying27 rfl sz23 rfl) ?_
  refine .i (lo1 (hlc rfl) own_b1_2 trivial agg23 sz23 rfl) ?_
  refine .da (X := Fr W2) (e := V.d (txtsV au.ids)) (sp_call1 (φ1 := IsD (SA w S [b1_2]) (strsD (au.ids))) ent113 ((hlc rfl).dat D_p0_1 sub_all) (fun g u1 W hk hgk h1 => (pkTexts_ok (au.ids) hn W _ _ h1).mono (ret_fr hk hgk))) ?_
  refine .da (X := Fr W2) (e := Mb.d (Mb.mk (⟨#[107, 101, 121, 105, 100, 115]⟩) (txtsV au.ids))) (sp_buildD (zd := [D.str ⟨#[]⟩, V.d V.zero]) (es := [(0, D.str (⟨#[107, 101, 121, 105, 100, 115]⟩)), (1, V.d (txtsV au.ids))]) Try.underlying67 z67 (pl67 Try.underlying67) ⟨rfl, Has.cst.str (lbr rfl), ⟨rfl, (hlc rfl), trivial⟩⟩ zMb (by first | rfl | simp [plOf, width, width_V, hssD]) (by simp [fits, width, strsD, valsD, hssD, width_V]) rfl) ?_
  refine .i (fo 0 (hbs rfl e1) Try.underlying27 rfl sz3 rfl) ?_
  refine .i (lo1 (hlc rfl) own_b1_2 trivial agg3 sz3 rfl) ?_
  refine .i (v := (.agg #[(.int .u8 (2)), (.int .i64 (au.th)), (.string (⟨#[]⟩)), (.slice none 0 0), (.slice none 0 0)])) (sp_call1 (φ1 := Is (.int .i64 (au.th))) ent39 (hlc rfl) (fun g u1 W hk hgk h1 => by have h1 : u1 = _ := h1; subst u1; exact pkNum_ok (au.th) W)) ?_
  refine .i (v := (.agg #[(.string (⟨#[116, 104, 114, 101, 115, 104, 111, 108, 100]⟩)), (.int .u8 (2)), (.int .i64 (au.th)), (.string (⟨#[]⟩)), (.slice none 0 0), (.slice none 0 0)])) (sp_build (vs := [(0, (.string (⟨#[116, 104, 114, 101, 115, 104, 111, 108, 100]⟩))), (1, (.agg #[(.int .u8 (2)), (.int .i64 (au.th)), (.string (⟨#[]⟩)), (.slice none 0 0), (.slice none 0 0)]))]) Try.underlying67 z67 (pl67 Try.underlying67) ⟨rfl, Has.cst, rfl, (hlc rfl), trivial⟩ (by kernel_rfl)) ?_
  refine .da (X := SF w [b1_2]) (e := mbsD ([Mb.mk (⟨#[107, 101, 121, 105, 100, 115]⟩) (txtsV au.ids), Mb.mk (⟨#[116, 104, 114, 101, 115, 104, 111, 108, 100]⟩) (V.mk (2) (au.th) (⟨#[]⟩) ([]) ([]))])) (sp_bsl (ds := [Mb.d (Mb.mk (⟨#[107, 101, 121, 105, 100, 115]⟩) (txtsV au.ids)), Mb.d (Mb.mk (⟨#[116, 104, 114, 101, 115, 104, 111, 108, 100]⟩) (V.mk (2) (au.th) (⟨#[]⟩) ([]) ([])))]) Try.underlying82 sz67 z67 (lbr rfl) (lbr rfl) ⟨rfl, ((hlc rfl).sup (fr_sf kw (in_cons own_b1_2.lt in_nil))), ⟨rfl, ((hlc rfl).dat (rdMb_mk (lbr rfl) (rdV_mk (by decide) (rd_nil _) (rd_nil _) : Rd W2 (SF w [b1_2]) (V.d (V.mk (2) (au.th) (⟨#[]⟩) ([]) ([]))) _) : Rd W2 (SF w [b1_2]) (Mb.d (Mb.mk (⟨#[116, 104, 114, 101, 115, 104, 111, 108, 100]⟩) (V.mk (2) (au.th) (⟨#[]⟩) ([]) ([])))) _) sub_all), trivial⟩⟩ rfl (by intro e he; simp at he; rcases he with rfl | rfl <;> exact width_Mb _) (fr_sf kw (in_cons own_b1_2.lt in_nil))) ?_
  refine .da (X := SF w [b1_2]) (e := mbsD ([Mb.mk (⟨#[107, 101, 121, 105, 100, 115]⟩) (txtsV au.ids), Mb.mk (⟨#[116, 104, 114, 101, 115, 104, 111, 108, 100]⟩) (V.mk (2) (au.th) (⟨#[]⟩) ([]) ([]))])) (sp_assign (hlc rfl)) ?_
  refine .done ⟨by kernel_rfl, fun a4 g W4 y4 zz4 hk hg hV hR hP => ?_⟩
  obtain ⟨e2, -, -, -, -, -, -, -, -, -, -⟩ := hV
  replace D_p0_1 := D_p0_1.ext hk
  obtain ⟨v2_4, ev⟩ : ∃ v, sl a4 2 = v := ⟨_, rfl⟩
  rw [ev] at e2
  have D_v2_4 : Rd W4 (SF w [b1_2]) (mbsD ([Mb.mk (⟨#[107, 101, 121, 105, 100, 115]⟩) (txtsV au.ids), Mb.mk (⟨#[116, 104, 114, 101, 115, 104, 111, 108, 100]⟩) (V.mk (2) (au.th) (⟨#[]⟩) ([]) ([]))])) v2_4 := sf_end e2 hk [] in_nil
  replace e2 := ev; clear ev
  obtain ⟨v2_4a, v2_4c, ev, D2⟩ := rdMbs_out D_v2_4
  subst ev; replace D_v2_4 := D2; clear D2
  replace own_b1_2 := own_b1_2.ext hk
  replace kw := kw.x hk
  clear hR hk hg hP
  refine tail_nil (hK3 _ _ ?_)
  refine wp_ret ?_
  refine (show bodyPost Try.prog Try.f51 _ .ret _ _ from ret1 rfl zz4 e2 ⟨_, rfl, kw, ?_⟩)
  exact sf_fr D_v2_4
set_option maxRecDepth 100000 in
theorem ValueA_ok (au : Au) (hw : ∀ m ∈ authL au, m.v.wt ≤ 1073741824) (w : World) (S : BSet) (v : Value) (hv : Rd w S au.d v) : Calls Try.prog 50 #[v] w (Ret w fun r W => ∃ r1, r = .tuple #[r1, .int .i64 (valE au)] ∧ Rd W (Fr w) (V.d (valV au)) r1) := by
  obtain ⟨p0_1a, p0_1c, ev, D_p0_1⟩ := rdAu_out (rd_arg hv)
  subst ev
  refine enter Try.func50 rfl Try.ntmps50 (lbr rfl) fun a0 y0 zz0 harg => ?_
  have e0 : sl a0 0 = (.agg #[(.int .i64 (au.th)), (.slice p0_1a (au.ids.length) p0_1c)]) := harg 0 (lbr rfl)
  have kw := Keeps.refl All w
  clear harg
  refine wp_seq_k fun K1 hK1 => ?_
  refine rg mixed y0 zz0 ?_
  refine .boxOp (v := (.agg #[(.int .i64 (au.th)), (.slice p0_1a (au.ids.length) p0_1c)])) (hbs rfl e0) ?_
  refine .alloc z33 ?_
  refine .i (sp_assign Has.cst) ?_
  refine .done ⟨by kernel_rfl, fun a2 g W2 y2 zz2 hk hg hV hR hP => ?_⟩
  obtain ⟨-, ⟨b2_2, e2, hb2, own_b2_2⟩, ⟨b1_2, e1, hb1, own_b1_2⟩, -⟩ := hV
  have lo_b2_2 : w.heap.size ≤ b2_2 := Nat.le_trans kw.size (hg.lo _ _ hb2)
  have own_b2_2 : Own W2 b2_2 [(.int .u8 (0)), (.int .i64 (0)), (.string (⟨#[]⟩)), (.slice none 0 0), (.slice none 0 0)] 33 := own_b2_2
  have lo_b1_2 : w.heap.size ≤ b1_2 := Nat.le_trans kw.size (hg.lo _ _ hb1)
  have own_b1_2 : Own W2 b1_2 [(.int .i64 (au.th)), (.slice p0_1a (au.ids.length) p0_1c)] 27 := own_b1_2
  have ne_b2_2_b1_2 : b2_2 ≠ b1_2 := fun h => by have := hg.inj _ _ _ hb2 (h ▸ hb1); cases this
  replace D_p0_1 := sa_more D_p0_1 hk [b2_2, b1_2] (in_cons (hg.lo _ _ hb2) (in_cons (hg.lo _ _ hb1) in_nil))
  replace kw := kw.x hk
  clear hR hk hg hP hb2 hb1
  refine tail_nil (hK1 _ _ ?_)
  refine wp_seq_k fun K3 hK3 => ?_
  refine wp_seq_k fun K4 hK4 => ?_
  refine rg mixed y2 zz2 ?_
  refine .i (v := (.agg #[(.int .i64 (au.th)), (.slice p0_1a (au.ids.length) p0_1c)])) (loA (hbs rfl e1) own_b1_2 trivial agg27 sz27 rfl rfl) ?_
  refine .i (v := (.bool (mayA au))) (sp_call1 (φ1 := IsD (SA w S [b2_2, b1_2]) (Au.d (au))) ent18 ((hlc rfl).dat (rdAu_mk D_p0_1 : Rd W2 (SA w S [b2_2, b1_2]) (Au.d (au)) _) sub_all) (fun g u1 W hk hgk h1 => mayA_ok (au) W _ _ h1)) ?_
  refine .i (sp_not (hlc rfl)) ?_
  refine .done ⟨by kernel_rfl, fun a5 g W5 y5 zz5 hk hg hV hR hP => ?_⟩
  obtain ⟨e6, -, -, -⟩ := hV
  replace e2 := (hR 2 rfl).trans e2
  replace e1 := (hR 1 rfl).trans e1
  replace D_p0_1 := D_p0_1.ext hk
  have e6 : sl a5 6 = (.bool (!(mayA au))) := e6
  replace own_b2_2 := own_b2_2.ext hk
  replace own_b1_2 := own_b1_2.ext hk
  replace kw := kw.x hk
  clear hR hk hg hP
  refine tail_nil (hK4 _ _ ?_)
  refine wp_cond_split e6 (fun hc => ?_) (fun hc => ?_)
  ·
   have hm : mayA au = false := by simpa using hc
   have hoe : valE au = 3 := by rw [valE, hm]; rfl
   have hov : valV au = ⟨0, 0, ⟨#[]⟩, [], []⟩ := by rw [valV, hm]; rfl
   refine wp_seq_k fun K6 hK6 => ?_
   refine rg mixed y5 zz5 ?_
   refine .i (v := (.agg #[(.int .u8 (0)), (.int .i64 (0)), (.string (⟨#[]⟩)), (.slice none 0 0), (.slice none 0 0)])) (sp_build (vs := []) Try.underlying33 z33 (pl33 Try.underlying33) trivial rfl) ?_
   refine .done ⟨by kernel_rfl, fun a7 g W7 y7 zz7 hk hg hV hR hP => ?_⟩
   obtain ⟨e7, -⟩ := hV
   replace e2 := (hR 2 rfl).trans e2
   replace D_p0_1 := D_p0_1.ext hk
   replace e7 := e7.q
   replace own_b2_2 := own_b2_2.ext hk
   replace own_b1_2 := own_b1_2.ext hk
   replace kw := kw.x hk
   clear hR hk hg hP
   refine tail_store (b := b2_2) (o := 0) (v := (.agg #[(.int .u8 (0)), (.int .i64 (0)), (.string (⟨#[]⟩)), (.slice none 0 0), (.slice none 0 0)])) e2 e7 sz33 rfl own_b2_2 (lbr rfl) (all_cons rfl (all_cons rfl (all_cons rfl (all_cons rfl (all_cons rfl all_nil))))) (fun W8 hs own_b2_2 => ?_)
   have own_b2_2 : Own W8 b2_2 [(.int .u8 (0)), (.int .i64 (0)), (.string (⟨#[]⟩)), (.slice none 0 0), (.slice none 0 0)] 33 := own_b2_2
   replace own_b1_2 := own_store own_b1_2 hs ne_b2_2_b1_2.symm
   replace D_p0_1 := sa_store D_p0_1 hs (by simp)
   replace kw := keeps_store kw hs lo_b2_2
   clear hs
   refine tail_assign (v := (.int .i64 (3))) rfl (by rw [y7]; exact Nat.le_of_ble_eq_true rfl) (fun a9 y9 zz9 e3 hr => ?_)
   replace y9 := y9.trans y7; replace zz9 := zz9.trans zz7
   replace e2 := (hr 2 (by decide)).trans e2
   replace e7 := (hr 7 (by decide)).trans e7
   clear hr
   refine tail_nil (hK6 _ _ ?_)
   refine wp_ret ?_
   refine (show bodyPost Try.prog Try.f50 _ .ret _ _ from retCT (v := (.agg #[(.int .u8 (0)), (.int .i64 (0)), (.string (⟨#[]⟩)), (.slice none 0 0), (.slice none 0 0)])) rfl zz9 e2 own_b2_2 agg33 sz33 rfl (fun h => by cases h) rfl e3 ⟨_, rfl, kw, ?_⟩)
   refine ⟨_, congrArg (fun q => Value.tuple #[_, Value.int .i64 q]) hoe.symm, ?_⟩
   rw [hov]
   exact sf_fr (rdV_mk (lbr rfl) (rd_nil _) (rd_nil _) : Rd W8 (SF w [b2_2, b1_2]) (V.d (V.mk (0) (0) (⟨#[]⟩) ([]) ([]))) _)
  ·
   have hm : mayA au = true := by simpa using hc
   have hmo := mayA_out hm
   have hoe : valE au = objE (authL au) := by rw [valE, hm, authL_E]; rfl
   have hov : valV au = objM (authL au) := by rw [valV, hm, authL_M]; rfl
   refine wp_skip (hK3 _ _ ?_)
   refine wp_seq_k fun K10 hK10 => ?_
   refine rg mixed y5 zz5 ?_
   refine .i (v := (.agg #[(.int .i64 (au.th)), (.slice p0_1a (au.ids.length) p0_1c)])) (loA (hbs rfl e1) own_b1_2 trivial agg27 sz27 rfl rfl) ?_
   refine .da (X := Fr W5) (e := mbsD (authL au)) (sp_call1 (φ1 := IsD (SA w S [b2_2, b1_2]) (Au.d (au))) ent51 ((hlc rfl).dat (rdAu_mk D_p0_1 : Rd W5 (SA w S [b2_2, b1_2]) (Au.d (au)) _) sub_all) (fun g u1 W hk hgk h1 => (Members_ok (au) (by omega) W _ _ h1).mono (ret_fr hk hgk))) ?_
   refine .op (φ := IsT (IsD (Fr W5) (V.d (objM (authL au)))) (Is (.int .i64 (objE (authL au))))) (st_t (st_d sub_all) (st_is _)) (sp_call1 (φ1 := IsD (Fr W5) (mbsD (authL au))) ent38 (hlc rfl) (fun g u1 W hk hgk h1 => (ObjectOf_ok (authL au) (by simp [authL]) (by simp [authL]) hw W _ _ (fun b o h => h.1.2) h1).mono (fun _ _ ⟨v, h1, h2, r1, h3, h4⟩ => ⟨v, h1, h2, r1, _, h3, fresh_d hk hgk h4, rfl⟩))) ?_
   refine .da (X := Fr W5) (e := V.d (objM (authL au))) (sp_ext2 (hlc rfl) rfl) ?_
   refine .i (v := (.int .i64 (objE (authL au)))) (sp_ext2' (hlc rfl) rfl) ?_
   refine .done ⟨by kernel_rfl, fun a11 g W11 y11 zz11 hk hg hV hR hP => ?_⟩
   obtain ⟨e12, e11, -, -, -, -⟩ := hV
   replace e2 := (hR 2 rfl).trans e2
   replace D_p0_1 := D_p0_1.ext hk
   obtain ⟨v11_11, ev⟩ : ∃ v, sl a11 11 = v := ⟨_, rfl⟩
   rw [ev] at e11
   have D_v11_11 : Rd W11 (SF w [b2_2, b1_2]) (V.d (objM (authL au))) v11_11 := fr_end (M := [b2_2, b1_2]) e11 kw [] in_nil (in_cons own_b2_2.lt (in_cons own_b1_2.lt in_nil))
   replace e11 := ev; clear ev
   obtain ⟨cn11_11a, cn11_11c, ci11_11a, ci11_11c, ev, ht_v11_11, D_cn11_11, D_ci11_11⟩ := rdV_out D_v11_11
   subst ev; clear D_v11_11
   have e12 : sl a11 12 = (.int .i64 (objE (authL au))) := e12
   replace own_b2_2 := own_b2_2.ext hk
   replace own_b1_2 := own_b1_2.ext hk
   replace kw := kw.x hk
   clear hR hk hg hP
   refine tail_store (b := b2_2) (o := 0) (v := (.agg #[(.int .u8 ((objM (authL au)).k)), (.int .i64 ((objM (authL au)).n)), (.string ((objM (authL au)).t)), (.slice cn11_11a (((objM (authL au)).ns).length) cn11_11c), (.slice ci11_11a (((objM (authL au)).xs).length) ci11_11c)])) e2 e11 sz33 rfl own_b2_2 (lbr rfl) (all_cons rfl (all_cons rfl (all_cons rfl (all_cons rfl (all_cons rfl all_nil))))) (fun W12 hs own_b2_2 => ?_)
   have own_b2_2 : Own W12 b2_2 [(.int .u8 ((objM (authL au)).k)), (.int .i64 ((objM (authL au)).n)), (.string ((objM (authL au)).t)), (.slice cn11_11a (((objM (authL au)).ns).length) cn11_11c), (.slice ci11_11a (((objM (authL au)).xs).length) ci11_11c)] 33 := own_b2_2
   replace own_b1_2 := own_store own_b1_2 hs ne_b2_2_b1_2.symm
   replace D_p0_1 := sa_store D_p0_1 hs (by simp)
   replace D_cn11_11 := sf_store D_cn11_11 hs (by simp)
   replace D_ci11_11 := sf_store D_ci11_11 hs (by simp)
   replace kw := keeps_store kw hs lo_b2_2
   clear hs
   refine tail_assign (v := (.int .i64 (objE (authL au)))) e12 (by rw [y11]; exact Nat.le_of_ble_eq_true rfl) (fun a13 y13 zz13 e3 hr => ?_)
   replace y13 := y13.trans y11; replace zz13 := zz13.trans zz11
   replace e2 := (hr 2 (by decide)).trans e2
   replace e11 := (hr 11 (by decide)).trans e11
   replace e12 := (hr 12 (by decide)).trans e12
   clear hr
   refine tail_nil (hK10 _ _ ?_)
   refine wp_ret ?_
   refine (show bodyPost Try.prog Try.f50 _ .ret _ _ from retCT (v := (.agg #[(.int .u8 ((objM (authL au)).k)), (.int .i64 ((objM (authL au)).n)), (.string ((objM (authL au)).t)), (.slice cn11_11a (((objM (authL au)).ns).length) cn11_11c), (.slice ci11_11a (((objM (authL au)).xs).length) ci11_11c)])) rfl zz13 e2 own_b2_2 agg33 sz33 rfl (fun h => by cases h) rfl e3 ⟨_, rfl, kw, ?_⟩)
   refine ⟨_, congrArg (fun q => Value.tuple #[_, Value.int .i64 q]) hoe.symm, ?_⟩
   rw [hov]
   exact sf_fr (rdV_in (x := (objM (authL au))) ht_v11_11 D_cn11_11 D_ci11_11 : Rd W12 (SF w [b2_2, b1_2]) (V.d ((objM (authL au)))) _)
end Go.Proofs.Ytnobijngkpflcaa
namespace Go.Eng
theorem txts_wtL : ∀ (ids : List ByteArray), (∀ s ∈ ids, s.size < 5000) → V.wts (ids.map txtV) ≤ 5000 * ids.length
  | [], _ => by simp [V.wts]
  | s :: r, h => by
    have h1 := txts_wtL r fun x hx => h x (List.mem_cons_of_mem _ hx)
    have h2 := h s List.mem_cons_self
    have h3 : (txtV s).wt = 1 + s.size := by rw [wt_eq]; simp [txtV, V.t, V.ns, V.xs, wtN, V.wts]
    simp only [List.map_cons, V.wts, List.length_cons, h3]
    omega
theorem authL_wtL {a : Au} (h : szI a.ids 0 < 5000) : ∀ m ∈ authL a, m.v.wt ≤ 1073741824 := fun m hm => by
  have h1 := txts_wtL a.ids (szI_str a.ids 0 h)
  have h2 := szI_len a.ids 0 h
  have h3 : (txtsV a.ids).wt = 1 + (ByteArray.size ⟨#[]⟩) + wtN [] + V.wts (a.ids.map txtV) := wt_eq _
  have h0 : ByteArray.size ⟨#[]⟩ = 0 := rfl
  have h6 : wtN [] = 0 := rfl
  simp [authL] at hm
  rcases hm with rfl | rfl
  · show (txtsV a.ids).wt ≤ _; omega
  · have : (numVv a.th).wt = 1 := rfl
    show (numVv a.th).wt ≤ _; omega
theorem valV_wt (a : Au) : (valV a).wt ≤ 1073741824 := by
  unfold valV
  split
  · rename_i h; exact objV_wt h
  · decide
end Go.Eng
namespace Go.Proofs.Ytnobijngkpflcaa
open Go.Eng
set_option maxRecDepth 100000 in
theorem SameA_ok (au bu : Au) (w : World) (S : BSet) (v u : Value) (hv : Rd w S au.d v) (hu : Rd w S bu.d u) : Calls Try.prog 67 #[v, u] w (Ret w fun u _ => u = .bool (sameA au bu)) := by
  obtain ⟨p0_1a, p0_1c, ev, D_p0_1⟩ := rdAu_out (rd_arg hv)
  subst ev
  obtain ⟨p1_1a, p1_1c, ev, D_p1_1⟩ := rdAu_out (rd_arg hu)
  subst ev
  refine enter Try.func67 rfl Try.ntmps67 (lbr rfl) fun a0 y0 zz0 harg => ?_
  have e0 : sl a0 0 = (.agg #[(.int .i64 (au.th)), (.slice p0_1a (au.ids.length) p0_1c)]) := harg 0 (lbr rfl)
  have e1 : sl a0 1 = (.agg #[(.int .i64 (bu.th)), (.slice p1_1a (bu.ids.length) p1_1c)]) := harg 1 (lbr rfl)
  have kw := Keeps.refl All w
  clear harg
  refine wp_seq_k fun K1 hK1 => ?_
  refine rg mixed y0 zz0 ?_
  refine .boxOp (v := (.agg #[(.int .i64 (au.th)), (.slice p0_1a (au.ids.length) p0_1c)])) (hbs rfl e0) ?_
  refine .boxOp (v := (.agg #[(.int .i64 (bu.th)), (.slice p1_1a (bu.ids.length) p1_1c)])) (hbs rfl e1) ?_
  refine .i (sp_assign Has.cst) ?_
  refine .done ⟨by kernel_rfl, fun a2 g W2 y2 zz2 hk hg hV hR hP => ?_⟩
  obtain ⟨-, ⟨b3_2, e3, hb3, own_b3_2⟩, ⟨b2_2, e2, hb2, own_b2_2⟩, -⟩ := hV
  have lo_b3_2 : w.heap.size ≤ b3_2 := Nat.le_trans kw.size (hg.lo _ _ hb3)
  have own_b3_2 : Own W2 b3_2 [(.int .i64 (bu.th)), (.slice p1_1a (bu.ids.length) p1_1c)] 27 := own_b3_2
  have lo_b2_2 : w.heap.size ≤ b2_2 := Nat.le_trans kw.size (hg.lo _ _ hb2)
  have own_b2_2 : Own W2 b2_2 [(.int .i64 (au.th)), (.slice p0_1a (au.ids.length) p0_1c)] 27 := own_b2_2
  have ne_b3_2_b2_2 : b3_2 ≠ b2_2 := fun h => by have := hg.inj _ _ _ hb3 (h ▸ hb2); cases this
  replace D_p0_1 := sa_more D_p0_1 hk [b3_2, b2_2] (in_cons (hg.lo _ _ hb3) (in_cons (hg.lo _ _ hb2) in_nil))
  replace D_p1_1 := sa_more D_p1_1 hk [b3_2, b2_2] (in_cons (hg.lo _ _ hb3) (in_cons (hg.lo _ _ hb2) in_nil))
  replace kw := kw.x hk
  clear hR hk hg hP hb3 hb2
  refine tail_nil (hK1 _ _ ?_)
  refine wp_seq_k fun K3 hK3 => ?_
  refine rg mixed y2 zz2 ?_
  refine .i (fo 0 (hbs rfl e2) Try.underlying27 rfl sz3 rfl) ?_
  refine .i (lo1 (hlc rfl) own_b2_2 trivial agg3 sz3 rfl) ?_
  refine .i (fo 0 (hbs rfl e3) Try.underlying27 rfl sz3 rfl) ?_
  refine .i (lo1 (hlc rfl) own_b3_2 trivial agg3 sz3 rfl) ?_
  refine .i (sp_eql (hlc rfl) (hlc rfl)) ?_
  refine .i (sp_move (hlc rfl)) ?_
  refine .e (t := 10) rfl (hlc rfl) (fun hg => fo 1 (hbs rfl e2) Try.underlying27 rfl sz23 rfl) ?_
  refine .e (t := 10) rfl (hlc rfl) (fun hg => lo1 ((hlc rfl).undE hg) own_b2_2 trivial agg23 sz23 rfl) ?_
  refine .e (t := 10) rfl (hlc rfl) (fun hg => fo 1 (hbs rfl e3) Try.underlying27 rfl sz23 rfl) ?_
  refine .e (t := 10) rfl (hlc rfl) (fun hg => lo1 ((hlc rfl).undE hg) own_b3_2 trivial agg23 sz23 rfl) ?_
  refine .e (t := 10) (v := (.bool (decide (au.ids = bu.ids)))) rfl (hlc rfl) (fun hg => sp_call2 (φ1 := IsD (SA w S [b3_2, b2_2]) (strsD (au.ids))) (φ2 := IsD (SA w S [b3_2, b2_2]) (strsD (bu.ids))) ent127 (((hlc rfl).undE hg).dat D_p0_1 sub_all) (((hlc rfl).undE hg).dat D_p1_1 sub_all) (fun g u1 u2 W hk hgk h1 h2 => equal_ok (au.ids) (bu.ids) W _ _ _ h1 h2)) ?_
  refine .i (sp_and (hlc rfl) ((hlc rfl).weak fun hq => hq)) ?_
  refine .i (sp_assign (hlc rfl)) ?_
  refine .done ⟨by kernel_rfl, fun a4 g W4 y4 zz4 hk hg hV hR hP => ?_⟩
  obtain ⟨e4, -, -, -, -, -, -, -, -, -, -, -, -, -⟩ := hV
  replace D_p0_1 := D_p0_1.ext hk
  replace D_p1_1 := D_p1_1.ext hk
  replace e4 := e4.q
  replace own_b3_2 := own_b3_2.ext hk
  replace own_b2_2 := own_b2_2.ext hk
  replace kw := kw.x hk
  clear hR hk hg hP
  refine tail_nil (hK3 _ _ ?_)
  refine wp_ret ?_
  refine (show bodyPost Try.prog Try.f67 _ .ret _ _ from ret1 rfl zz4 e4 ⟨_, rfl, kw, ?_⟩)
  refine congrArg Value.bool ?_
  rw [sameA, Bool.eq_iff_iff]
  simp
end Go.Proofs.Ytnobijngkpflcaa
namespace Go.Eng
theorem long_wt {xs : List V} (h : szL xs 0 0 < 20000) : V.wts xs < 20000 := by have := szL_wt xs 0 0 h; omega
end Go.Eng
namespace Go.Proofs.Ytnobijngkpflcaa
open Go.Eng
set_option maxRecDepth 100000 in
set_option maxHeartbeats 1000000 in
theorem AuthBack_ok (u : World) (au : Au) (x : V) (w : World) (S : BSet) (v v2 : Value) (hu : u.heap.size ≤ w.heap.size) (hP : Pin u S) (hav : AVv u v2) (hv : Rd w S au.d v) (hv2 : Rd w S x.d v2) : Calls Try.prog 11 #[v, v2] w (Ret w fun r _ => r = .bool true) := by
  obtain ⟨p0_1a, p0_1c, ev, D_p0_1⟩ := rdAu_out (rd_arg hv)
  subst ev
  obtain ⟨cn1a, cn1c, ci1a, ci1c, ev, ht1, D_cn1, D_ci1⟩ := rdV_out (rd_arg hv2)
  subst ev
  refine enter Try.func11 rfl Try.ntmps11 (lbr rfl) fun a0 y0 zz0 harg => ?_
  have e0 : sl a0 0 = (.agg #[(.int .i64 (au.th)), (.slice p0_1a (au.ids.length) p0_1c)]) := harg 0 (lbr rfl)
  have e1 : sl a0 1 = (.agg #[(.int .u8 (x.k)), (.int .i64 (x.n)), (.string (x.t)), (.slice cn1a (x.ns.length) cn1c), (.slice ci1a (x.xs.length) ci1c)]) := harg 1 (lbr rfl)
  have kw := Keeps.refl All w
  clear harg
  refine wp_seq_k fun K1 hK1 => ?_
  refine rg mixed y0 zz0 ?_
  refine .boxOp (v := (.agg #[(.int .i64 (au.th)), (.slice p0_1a (au.ids.length) p0_1c)])) (hbs rfl e0) ?_
  refine .boxOp (v := (.agg #[(.int .u8 (x.k)), (.int .i64 (x.n)), (.string (x.t)), (.slice cn1a (x.ns.length) cn1c), (.slice ci1a (x.xs.length) ci1c)])) (hbs rfl e1) ?_
  refine .i (sp_assign Has.cst) ?_
  refine .done ⟨by kernel_rfl, fun a2 g W2 y2 zz2 hk hg hV hR hP => ?_⟩
  obtain ⟨-, ⟨b3_2, e3, hb3, own_b3_2⟩, ⟨b2_2, e2, hb2, own_b2_2⟩, -⟩ := hV
  have lo_b3_2 : w.heap.size ≤ b3_2 := Nat.le_trans kw.size (hg.lo _ _ hb3)
  have own_b3_2 : Own W2 b3_2 [(.int .u8 (x.k)), (.int .i64 (x.n)), (.string (x.t)), (.slice cn1a (x.ns.length) cn1c), (.slice ci1a (x.xs.length) ci1c)] 33 := own_b3_2
  have lo_b2_2 : w.heap.size ≤ b2_2 := Nat.le_trans kw.size (hg.lo _ _ hb2)
  have own_b2_2 : Own W2 b2_2 [(.int .i64 (au.th)), (.slice p0_1a (au.ids.length) p0_1c)] 27 := own_b2_2
  have ne_b3_2_b2_2 : b3_2 ≠ b2_2 := fun h => by have := hg.inj _ _ _ hb3 (h ▸ hb2); cases this
  replace D_p0_1 := sa_more D_p0_1 hk [b3_2, b2_2] (in_cons (hg.lo _ _ hb3) (in_cons (hg.lo _ _ hb2) in_nil))
  replace D_cn1 := sa_more D_cn1 hk [b3_2, b2_2] (in_cons (hg.lo _ _ hb3) (in_cons (hg.lo _ _ hb2) in_nil))
  replace D_ci1 := sa_more D_ci1 hk [b3_2, b2_2] (in_cons (hg.lo _ _ hb3) (in_cons (hg.lo _ _ hb2) in_nil))
  replace kw := kw.x hk
  clear hR hk hg hP hb3 hb2
  refine tail_nil (hK1 _ _ ?_)
  refine wp_seq_k fun K3 hK3 => ?_
  refine wp_seq_k fun K4 hK4 => ?_
  refine rg mixed y2 zz2 ?_
  refine .i (v := (.agg #[(.int .i64 (au.th)), (.slice p0_1a (au.ids.length) p0_1c)])) (loA (hbs rfl e2) own_b2_2 trivial agg27 sz27 rfl rfl) ?_
  refine .da (X := SA w S [b3_2, b2_2]) (e := ausD ([au])) (sp_bsl (ds := [Au.d (au)]) Try.underlying153 sz27 z27 (lbr rfl) (lbr rfl) ⟨rfl, ((hlc rfl).dat (rdAu_mk D_p0_1 : Rd W2 (SA w S [b3_2, b2_2]) (Au.d (au)) _) sub_all), trivial⟩ rfl (by intro e he; simp at he; rcases he with rfl <;> exact width_Au _) (fr_sa kw (in_cons own_b3_2.lt (in_cons own_b2_2.lt in_nil)))) ?_
  refine .i (v := (.bool (decide (5000 ≤ szA ([au]) 0)))) (sp_call1 (φ1 := IsD (SA w S [b3_2, b2_2]) (ausD ([au]))) ent49 (hlc rfl) (fun g u1 W hk hgk h1 => longA_ok ([au]) W _ _ h1)) ?_
  refine .i (sp_move (hlc rfl)) ?_
  refine .e (t := 16) (v := (.agg #[(.int .u8 (x.k)), (.int .i64 (x.n)), (.string (x.t)), (.slice cn1a (x.ns.length) cn1c), (.slice ci1a (x.xs.length) ci1c)])) rfl (hlc rfl) (fun hg => loA (hbs rfl e3) own_b3_2 trivial agg33 sz33 rfl rfl) ?_
  refine .opE (t := 16) (φ := IsD (SA w S [b3_2, b2_2]) (valsD ([x]))) rfl (hlc rfl) (st_d sub_all) (fun hg => sp_bsl (ds := [V.d (x)]) Try.underlying31 sz33 z33 (lbr rfl) (lbr rfl) ⟨rfl, (((hlc rfl).undE hg).dat (rdV_in (x := x) ht1 D_cn1 D_ci1 : Rd W2 (SA w S [b3_2, b2_2]) (V.d (x)) _) sub_all), trivial⟩ rfl (by intro e he; simp at he; rcases he with rfl <;> exact width_V _) (fr_sa kw (in_cons own_b3_2.lt (in_cons own_b2_2.lt in_nil)))) ?_
  refine .e (t := 16) (v := (.bool (decide (20000 ≤ szL ([x]) 0 0)))) rfl (hlc rfl) (fun hg => sp_call1 (φ1 := IsD (SA w S [b3_2, b2_2]) (valsD ([x]))) ent26 ((hlc rfl).undE hg) (fun g u1 W hk hgk h1 => Long_ok ([x]) W _ _ h1)) ?_
  refine .i (sp_or (hlc rfl) ((hlc rfl).weak fun hq => hq)) ?_
  refine .i (sp_move (hlc rfl)) ?_
  refine .e (t := 21) (v := (.bool (true))) rfl (hlc rfl) (fun hg => sp_call0  ent14  (fun g  W hk hgk  => awakeA_ok W)) ?_
  refine .e (t := 21) rfl (hlc rfl) (fun hg => sp_not ((hlc rfl).undE hg)) ?_
  refine .i (sp_or (hlc rfl) ((hlc rfl).weak fun hq => hq)) ?_
  refine .done ⟨by kernel_rfl, fun a5 g W5 y5 zz5 hk hg hV hR hP => ?_⟩
  obtain ⟨e24, -, -, -, -, -, -, -, -, -, -, -, -⟩ := hV
  replace e3 := (hR 3 rfl).trans e3
  replace e2 := (hR 2 rfl).trans e2
  replace D_p0_1 := D_p0_1.ext hk
  replace D_cn1 := D_cn1.ext hk
  replace D_ci1 := D_ci1.ext hk
  replace e24 := e24.q
  replace own_b3_2 := own_b3_2.ext hk
  replace own_b2_2 := own_b2_2.ext hk
  replace kw := kw.x hk
  clear hR hk hg hP
  refine tail_nil (hK4 _ _ ?_)
  refine wp_cond_split e24 (fun hc => ?_) (fun hc => ?_)
  ·
   refine wp_seq_k fun K6 hK6 => ?_
   refine rg mixed y5 zz5 ?_
   refine .i (v := (.bool (true))) (sp_call0  ent14  (fun g  W hk hgk  => awakeA_ok W)) ?_
   refine .i (sp_assign (hlc rfl)) ?_
   refine .done ⟨by kernel_rfl, fun a7 g W7 y7 zz7 hk hg hV hR hP => ?_⟩
   obtain ⟨e4, -, -⟩ := hV
   replace D_p0_1 := D_p0_1.ext hk
   replace D_cn1 := D_cn1.ext hk
   replace D_ci1 := D_ci1.ext hk
   have e4 : sl a7 4 = (.bool (true)) := e4
   replace own_b3_2 := own_b3_2.ext hk
   replace own_b2_2 := own_b2_2.ext hk
   replace kw := kw.x hk
   clear hR hk hg hP
   refine tail_nil (hK6 _ _ ?_)
   refine wp_ret ?_
   refine (show bodyPost Try.prog Try.f11 _ .ret _ _ from ret1 rfl zz7 e4 ⟨_, rfl, kw, ?_⟩)
   exact rfl
  ·
   simp only [Bool.or_eq_false_iff, decide_eq_false_iff_not] at hc
   obtain ⟨⟨hlong, hlx⟩, -⟩ := hc
   have hsz : szI au.ids 0 < 5000 := by have h2 : szA [au] 0 = szI au.ids 0 := rfl; omega
   have hw := authL_wtL hsz
   have hcv := Nat.le_trans (cnt_wt _) (valV_wt au)
   have hx : x.wt ≤ 1073741824 := by have := long_wt (Nat.lt_of_not_le hlx); simp only [V.wts] at this; omega
   refine wp_skip (hK3 _ _ ?_)
   refine wp_seq_k fun K8 hK8 => ?_
   refine rg mixed y5 zz5 ?_
   refine .i (v := (.agg #[(.int .i64 (au.th)), (.slice p0_1a (au.ids.length) p0_1c)])) (loA (hbs rfl e2) own_b2_2 trivial agg27 sz27 rfl rfl) ?_
   refine .op (φ := IsT (IsD (Fr W5) (V.d (valV au))) (Is (.int .i64 (valE au)))) (st_t (st_d sub_all) (st_is _)) (sp_call1 (φ1 := IsD (SA w S [b3_2, b2_2]) (Au.d (au))) ent50 ((hlc rfl).dat (rdAu_mk D_p0_1 : Rd W5 (SA w S [b3_2, b2_2]) (Au.d (au)) _) sub_all) (fun g u1 W hk hgk h1 => (ValueA_ok (au) (by first | exact hw | exact hw2) W _ _ h1).mono (fun _ _ ⟨v, h1, h2, r1, h3, h4⟩ => ⟨v, h1, h2, r1, _, h3, fresh_d hk hgk h4, rfl⟩))) ?_
   refine .op (φ := IsT (IsD (Fr W5) (V.d (valV au))) (Is (.int .i64 (valE au)))) (st_t (st_d sub_all) (st_is _)) (sp_move (hlc rfl)) ?_
   refine .da (X := Fr W5) (e := V.d (valV au)) (sp_ext2 (hlc rfl) rfl) ?_
   refine .i (v := (.int .i64 (valE au))) (sp_ext2' (hlc rfl) rfl) ?_
   refine .alloc z33 ?_
   refine .done ⟨by kernel_rfl, fun a9 g W9 y9 zz9 hk hg hV hR hP => ?_⟩
   obtain ⟨⟨b5_9, e5, hb5, own_b5_9⟩, e30, e29, -, -, -, -⟩ := hV
   have lo_b5_9 : w.heap.size ≤ b5_9 := Nat.le_trans kw.size (hg.lo _ _ hb5)
   have ne_b3_2_b5_9 : b3_2 ≠ b5_9 := Nat.ne_of_lt (Nat.lt_of_lt_of_le own_b3_2.lt (hg.lo _ _ hb5))
   have ne_b2_2_b5_9 : b2_2 ≠ b5_9 := Nat.ne_of_lt (Nat.lt_of_lt_of_le own_b2_2.lt (hg.lo _ _ hb5))
   have own_b5_9 : Own W9 b5_9 [(.int .u8 (0)), (.int .i64 (0)), (.string (⟨#[]⟩)), (.slice none 0 0), (.slice none 0 0)] 33 := own_b5_9
   replace e3 := (hR 3 rfl).trans e3
   replace e2 := (hR 2 rfl).trans e2
   replace D_p0_1 := sa_more D_p0_1 hk [b5_9] (in_cons (hg.lo _ _ hb5) in_nil)
   replace D_cn1 := sa_more D_cn1 hk [b5_9] (in_cons (hg.lo _ _ hb5) in_nil)
   replace D_ci1 := sa_more D_ci1 hk [b5_9] (in_cons (hg.lo _ _ hb5) in_nil)
   obtain ⟨v29_9, ev⟩ : ∃ v, sl a9 29 = v := ⟨_, rfl⟩
   rw [ev] at e29
   have D_v29_9 : Rd W9 (SF w [b5_9, b3_2, b2_2]) (V.d (valV au)) v29_9 := fr_end (M := [b3_2, b2_2]) e29 kw [b5_9] (in_cons ⟨_, hb5⟩ in_nil) (in_cons own_b3_2.lt (in_cons own_b2_2.lt in_nil))
   replace e29 := ev; clear ev
   obtain ⟨cn29_9a, cn29_9c, ci29_9a, ci29_9c, ev, ht_v29_9, D_cn29_9, D_ci29_9⟩ := rdV_out D_v29_9
   subst ev; clear D_v29_9
   have e30 : sl a9 30 = (.int .i64 (valE au)) := e30
   replace own_b3_2 := own_b3_2.ext hk
   replace own_b2_2 := own_b2_2.ext hk
   replace kw := kw.x hk
   clear hR hk hg hP hb5
   refine tail_store (b := b5_9) (o := 0) (v := (.agg #[(.int .u8 ((valV au).k)), (.int .i64 ((valV au).n)), (.string ((valV au).t)), (.slice cn29_9a (((valV au).ns).length) cn29_9c), (.slice ci29_9a (((valV au).xs).length) ci29_9c)])) e5 e29 sz33 rfl own_b5_9 (lbr rfl) (all_cons rfl (all_cons rfl (all_cons rfl (all_cons rfl (all_cons rfl all_nil))))) (fun W10 hs own_b5_9 => ?_)
   have own_b5_9 : Own W10 b5_9 [(.int .u8 ((valV au).k)), (.int .i64 ((valV au).n)), (.string ((valV au).t)), (.slice cn29_9a (((valV au).ns).length) cn29_9c), (.slice ci29_9a (((valV au).xs).length) ci29_9c)] 33 := own_b5_9
   replace own_b3_2 := own_store own_b3_2 hs ne_b3_2_b5_9
   replace own_b2_2 := own_store own_b2_2 hs ne_b2_2_b5_9
   replace D_p0_1 := sa_store D_p0_1 hs (by simp)
   replace D_cn1 := sa_store D_cn1 hs (by simp)
   replace D_ci1 := sa_store D_ci1 hs (by simp)
   replace D_cn29_9 := sf_store D_cn29_9 hs (by simp)
   replace D_ci29_9 := sf_store D_ci29_9 hs (by simp)
   replace kw := keeps_store kw hs lo_b5_9
   clear hs
   refine tail_assign (v := (.int .i64 (valE au))) e30 (by rw [y9]; exact Nat.le_of_ble_eq_true rfl) (fun a11 y11 zz11 e6 hr => ?_)
   replace y11 := y11.trans y9; replace zz11 := zz11.trans zz9
   replace e3 := (hr 3 (by decide)).trans e3
   replace e2 := (hr 2 (by decide)).trans e2
   replace e5 := (hr 5 (by decide)).trans e5
   replace e29 := (hr 29 (by decide)).trans e29
   replace e30 := (hr 30 (by decide)).trans e30
   clear hr
   refine tail_nil (hK8 _ _ ?_)
   refine wp_seq_k fun K12 hK12 => ?_
   refine wp_seq_k fun K13 hK13 => ?_
   refine rg mixed y11 zz11 ?_
   refine .i (sp_move (hbs rfl e6)) ?_
   refine .i (sp_eql (hlc rfl) Has.cst) ?_
   refine .i (v := (.agg #[(.int .i64 (au.th)), (.slice p0_1a (au.ids.length) p0_1c)])) (loA (hbs rfl e2) own_b2_2 trivial agg27 sz27 rfl rfl) ?_
   refine .i (v := (.bool (mayA au))) (sp_call1 (φ1 := IsD (SA w S [b5_9, b3_2, b2_2]) (Au.d (au))) ent18 ((hlc rfl).dat (rdAu_mk D_p0_1 : Rd W10 (SA w S [b5_9, b3_2, b2_2]) (Au.d (au)) _) sub_all) (fun g u1 W hk hgk h1 => mayA_ok (au) W _ _ h1)) ?_
   refine .i (sp_bNeq Try.underlying4 (hlc rfl) (hlc rfl)) ?_
   refine .done ⟨by kernel_rfl, fun a14 g W14 y14 zz14 hk hg hV hR hP => ?_⟩
   obtain ⟨e35, -, -, -, -, -⟩ := hV
   replace e3 := (hR 3 rfl).trans e3
   replace e2 := (hR 2 rfl).trans e2
   replace e5 := (hR 5 rfl).trans e5
   replace e6 := (hR 6 rfl).trans e6
   replace D_p0_1 := D_p0_1.ext hk
   replace D_cn1 := D_cn1.ext hk
   replace D_ci1 := D_ci1.ext hk
   replace D_cn29_9 := D_cn29_9.ext hk
   replace D_ci29_9 := D_ci29_9.ext hk
   replace e35 := e35.q
   replace own_b3_2 := own_b3_2.ext hk
   replace own_b2_2 := own_b2_2.ext hk
   replace own_b5_9 := own_b5_9.ext hk
   replace kw := kw.x hk
   clear hR hk hg hP
   refine tail_nil (hK13 _ _ ?_)
   refine wp_cond_split e35 (fun hc => ?_) (fun hc => ?_)
   ·
    exfalso
    cases hm : mayA au <;> simp [valE, hm] at hc
   ·
    refine wp_skip (hK12 _ _ ?_)
    refine wp_seq_k fun K15 hK15 => ?_
    refine wp_seq_k fun K16 hK16 => ?_
    refine rg mixed y14 zz14 ?_
    refine .i (sp_move (hbs rfl e6)) ?_
    refine .i (sp_eql (hlc rfl) Has.cst) ?_
    refine .done ⟨by kernel_rfl, fun a17 g W17 y17 zz17 hk hg hV hR hP => ?_⟩
    obtain ⟨e37, -, -⟩ := hV
    replace e3 := (hR 3 rfl).trans e3
    replace e2 := (hR 2 rfl).trans e2
    replace e5 := (hR 5 rfl).trans e5
    replace D_p0_1 := D_p0_1.ext hk
    replace D_cn1 := D_cn1.ext hk
    replace D_ci1 := D_ci1.ext hk
    replace D_cn29_9 := D_cn29_9.ext hk
    replace D_ci29_9 := D_ci29_9.ext hk
    have e37 : sl a17 37 = (.bool ((valE au : Int) == (0 : Int))) := e37
    replace own_b3_2 := own_b3_2.ext hk
    replace own_b2_2 := own_b2_2.ext hk
    replace own_b5_9 := own_b5_9.ext hk
    replace kw := kw.x hk
    clear hR hk hg hP
    refine tail_nil (hK16 _ _ ?_)
    refine wp_cond_split e37 (fun hc => ?_) (fun hc => ?_)
    ·
     have hm : mayA au = true := by cases hm : mayA au <;> simp [valE, hm] at hc ⊢
     have hvV : valV au = objV au.th au.ids := by rw [valV, hm]; rfl
     have hbk0 := back hm
     have hof0 : ofAE (valV au) = 0 := by rw [hvV]; exact hbk0.1
     have hofv : ofAV (valV au) = au := by rw [hvV]; exact hbk0.2
     have hvw : (valV au).wt ≤ 1073741824 := by rw [hvV]; exact objV_wt hm
     refine wp_seq_k fun K18 hK18 => ?_
     refine rg mixed y17 zz17 ?_
     refine .i (v := (.agg #[(.int .u8 ((valV au).k)), (.int .i64 ((valV au).n)), (.string ((valV au).t)), (.slice cn29_9a (((valV au).ns).length) cn29_9c), (.slice ci29_9a (((valV au).xs).length) ci29_9c)])) (loA (hbs rfl e5) own_b5_9 trivial agg33 sz33 rfl rfl) ?_
     refine .op (φ := IsT (IsD (Fr W17) (Au.d (ofAV ((valV au))))) (Is (.int .i64 (ofAE ((valV au)))))) (st_t (st_d sub_all) (st_is _)) (sp_call1 (φ1 := IsD (SF w [b5_9, b3_2, b2_2]) (V.d ((valV au)))) ent16 ((hlc rfl).dat (rdV_in (x := (valV au)) ht_v29_9 D_cn29_9 D_ci29_9 : Rd W17 (SF w [b5_9, b3_2, b2_2]) (V.d ((valV au))) _) sub_all) (fun g u1 W hk hgk h1 => (authOf_ok ((valV au)) hvw W _ _ (fun b o h => h.1.2.1) h1).mono (fun _ _ ⟨v, h1, h2, r1, h3, h4⟩ => ⟨v, h1, h2, r1, _, h3, fresh_d hk hgk h4, rfl⟩))) ?_
     refine .op (φ := IsT (IsD (Fr W17) (Au.d (ofAV ((valV au))))) (Is (.int .i64 (ofAE ((valV au)))))) (st_t (st_d sub_all) (st_is _)) (sp_move (hlc rfl)) ?_
     refine .da (X := Fr W17) (e := Au.d (ofAV ((valV au)))) (sp_ext2 (hlc rfl) rfl) ?_
     refine .i (v := (.int .i64 (ofAE ((valV au))))) (sp_ext2' (hlc rfl) rfl) ?_
     refine .alloc z27 ?_
     refine .done ⟨by kernel_rfl, fun a19 g W19 y19 zz19 hk hg hV hR hP => ?_⟩
     obtain ⟨⟨b7_19, e7, hb7, own_b7_19⟩, e42, e41, -, -, -, -⟩ := hV
     have lo_b7_19 : w.heap.size ≤ b7_19 := Nat.le_trans kw.size (hg.lo _ _ hb7)
     have ne_b3_2_b7_19 : b3_2 ≠ b7_19 := Nat.ne_of_lt (Nat.lt_of_lt_of_le own_b3_2.lt (hg.lo _ _ hb7))
     have ne_b2_2_b7_19 : b2_2 ≠ b7_19 := Nat.ne_of_lt (Nat.lt_of_lt_of_le own_b2_2.lt (hg.lo _ _ hb7))
     have ne_b5_9_b7_19 : b5_9 ≠ b7_19 := Nat.ne_of_lt (Nat.lt_of_lt_of_le own_b5_9.lt (hg.lo _ _ hb7))
     have own_b7_19 : Own W19 b7_19 [(.int .i64 (0)), (.slice none 0 0)] 27 := own_b7_19
     replace e3 := (hR 3 rfl).trans e3
     replace e2 := (hR 2 rfl).trans e2
     replace D_p0_1 := sa_more D_p0_1 hk [b7_19] (in_cons (hg.lo _ _ hb7) in_nil)
     replace D_cn1 := sa_more D_cn1 hk [b7_19] (in_cons (hg.lo _ _ hb7) in_nil)
     replace D_ci1 := sa_more D_ci1 hk [b7_19] (in_cons (hg.lo _ _ hb7) in_nil)
     replace D_cn29_9 := sf_more D_cn29_9 hk [b7_19] (in_cons (hg.lo _ _ hb7) in_nil)
     replace D_ci29_9 := sf_more D_ci29_9 hk [b7_19] (in_cons (hg.lo _ _ hb7) in_nil)
     obtain ⟨v41_19, ev⟩ : ∃ v, sl a19 41 = v := ⟨_, rfl⟩
     rw [ev] at e41
     have D_v41_19 : Rd W19 (SF w [b7_19, b5_9, b3_2, b2_2]) (Au.d (ofAV ((valV au)))) v41_19 := fr_end (M := [b5_9, b3_2, b2_2]) e41 kw [b7_19] (in_cons ⟨_, hb7⟩ in_nil) (in_cons own_b5_9.lt (in_cons own_b3_2.lt (in_cons own_b2_2.lt in_nil)))
     replace e41 := ev; clear ev
     obtain ⟨v41_19_1a, v41_19_1c, ev, D_v41_19_1⟩ := rdAu_out D_v41_19
     subst ev; clear D_v41_19
     have e42 : sl a19 42 = (.int .i64 (ofAE ((valV au)))) := e42
     replace own_b3_2 := own_b3_2.ext hk
     replace own_b2_2 := own_b2_2.ext hk
     replace own_b5_9 := own_b5_9.ext hk
     replace kw := kw.x hk
     clear hR hk hg hP hb7
     refine tail_store (b := b7_19) (o := 0) (v := (.agg #[(.int .i64 ((ofAV ((valV au))).th)), (.slice v41_19_1a (((ofAV ((valV au))).ids).length) v41_19_1c)])) e7 e41 sz27 rfl own_b7_19 (lbr rfl) (all_cons rfl (all_cons rfl all_nil)) (fun W20 hs own_b7_19 => ?_)
     have own_b7_19 : Own W20 b7_19 [(.int .i64 ((ofAV ((valV au))).th)), (.slice v41_19_1a (((ofAV ((valV au))).ids).length) v41_19_1c)] 27 := own_b7_19
     replace own_b3_2 := own_store own_b3_2 hs ne_b3_2_b7_19
     replace own_b2_2 := own_store own_b2_2 hs ne_b2_2_b7_19
     replace own_b5_9 := own_store own_b5_9 hs ne_b5_9_b7_19
     replace D_p0_1 := sa_store D_p0_1 hs (by simp)
     replace D_cn1 := sa_store D_cn1 hs (by simp)
     replace D_ci1 := sa_store D_ci1 hs (by simp)
     replace D_cn29_9 := sf_store D_cn29_9 hs (by simp)
     replace D_ci29_9 := sf_store D_ci29_9 hs (by simp)
     replace D_v41_19_1 := sf_store D_v41_19_1 hs (by simp)
     replace kw := keeps_store kw hs lo_b7_19
     clear hs
     refine tail_assign (v := (.int .i64 (ofAE ((valV au))))) e42 (by rw [y19]; exact Nat.le_of_ble_eq_true rfl) (fun a21 y21 zz21 e8 hr => ?_)
     replace y21 := y21.trans y19; replace zz21 := zz21.trans zz19
     replace e3 := (hr 3 (by decide)).trans e3
     replace e2 := (hr 2 (by decide)).trans e2
     replace e7 := (hr 7 (by decide)).trans e7
     replace e41 := (hr 41 (by decide)).trans e41
     replace e42 := (hr 42 (by decide)).trans e42
     clear hr
     refine tail_nil (hK18 _ _ ?_)
     refine wp_seq_k fun K22 hK22 => ?_
     refine rg mixed y21 zz21 ?_
     refine .i (sp_move (hbs rfl e8)) ?_
     refine .i (sp_neq (hlc rfl) Has.cst) ?_
     refine .i (sp_move (hlc rfl)) ?_
     refine .e (t := 45) (v := (.agg #[(.int .i64 (au.th)), (.slice p0_1a (au.ids.length) p0_1c)])) rfl (hlc rfl) (fun hg => loA (hbs rfl e2) own_b2_2 trivial agg27 sz27 rfl rfl) ?_
     refine .e (t := 45) (v := (.agg #[(.int .i64 ((ofAV ((valV au))).th)), (.slice v41_19_1a (((ofAV ((valV au))).ids).length) v41_19_1c)])) rfl (hlc rfl) (fun hg => loA (hbs rfl e7) own_b7_19 trivial agg27 sz27 rfl rfl) ?_
     refine .e (t := 45) (v := (.bool (sameA au (ofAV ((valV au)))))) rfl (hlc rfl) (fun hg => sp_call2 (φ1 := IsD (SA w S [b7_19, b5_9, b3_2, b2_2]) (Au.d (au))) (φ2 := IsD (SA w S [b7_19, b5_9, b3_2, b2_2]) (Au.d ((ofAV ((valV au)))))) ent67 (((hlc rfl).undE hg).dat (rdAu_mk D_p0_1 : Rd W20 (SA w S [b7_19, b5_9, b3_2, b2_2]) (Au.d (au)) _) sub_all) ((((hlc rfl).undE hg).dat (rdAu_mk D_v41_19_1 : Rd W20 (SF w [b7_19, b5_9, b3_2, b2_2]) (Au.d ((ofAV ((valV au))))) _) sub_all).sup sf_in_sa) (fun g u1 u2 W hk hgk h1 h2 => SameA_ok (au) ((ofAV ((valV au)))) W _ _ _ h1 h2)) ?_
     refine .e (t := 45) rfl (hlc rfl) (fun hg => sp_not ((hlc rfl).undE hg)) ?_
     refine .i (sp_or (hlc rfl) ((hlc rfl).weak fun hq => hq)) ?_
     refine .i (sp_move (hlc rfl)) ?_
     refine .e (t := 51) (v := (.agg #[(.int .i64 (au.th)), (.slice p0_1a (au.ids.length) p0_1c)])) rfl (hlc rfl) (fun hg => loA (hbs rfl e2) own_b2_2 trivial agg27 sz27 rfl rfl) ?_
     refine .e (t := 51) (v := (.agg #[(.int .i64 ((ofAV ((valV au))).th)), (.slice v41_19_1a (((ofAV ((valV au))).ids).length) v41_19_1c)])) rfl (hlc rfl) (fun hg => loA (hbs rfl e7) own_b7_19 trivial agg27 sz27 rfl rfl) ?_
     refine .e (t := 51) (v := (.bool (sameA au (ofAV ((valV au)))))) rfl (hlc rfl) (fun hg => sp_call2 (φ1 := IsD (SA w S [b7_19, b5_9, b3_2, b2_2]) (Au.d (au))) (φ2 := IsD (SA w S [b7_19, b5_9, b3_2, b2_2]) (Au.d ((ofAV ((valV au)))))) ent20 (((hlc rfl).undE hg).dat (rdAu_mk D_p0_1 : Rd W20 (SA w S [b7_19, b5_9, b3_2, b2_2]) (Au.d (au)) _) sub_all) ((((hlc rfl).undE hg).dat (rdAu_mk D_v41_19_1 : Rd W20 (SF w [b7_19, b5_9, b3_2, b2_2]) (Au.d ((ofAV ((valV au))))) _) sub_all).sup sf_in_sa) (fun g u1 u2 W hk hgk h1 h2 => refSameA_ok (au) ((ofAV ((valV au)))) W _ _ _ h1 h2)) ?_
     refine .e (t := 51) rfl (hlc rfl) (fun hg => sp_not ((hlc rfl).undE hg)) ?_
     refine .i (sp_or (hlc rfl) ((hlc rfl).weak fun hq => hq)) ?_
     refine .done ⟨by kernel_rfl, fun a23 g W23 y23 zz23 hk hg hV hR hP => ?_⟩
     obtain ⟨e56, -, -, -, -, -, -, -, -, -, -, -, -, -, -⟩ := hV
     replace e3 := (hR 3 rfl).trans e3
     replace D_p0_1 := D_p0_1.ext hk
     replace D_cn1 := D_cn1.ext hk
     replace D_ci1 := D_ci1.ext hk
     replace D_v41_19_1 := D_v41_19_1.ext hk
     replace e56 := e56.q
     replace own_b3_2 := own_b3_2.ext hk
     replace own_b2_2 := own_b2_2.ext hk
     replace own_b5_9 := own_b5_9.ext hk
     replace own_b7_19 := own_b7_19.ext hk
     replace kw := kw.x hk
     clear hR hk hg hP
     refine tail_nil (hK22 _ _ ?_)
     refine wp_cond_split e56 (fun hc => ?_) (fun hc => ?_)
     ·
      exfalso
      rw [hof0, hofv, (sameA_iff au au).2 rfl] at hc
      simp at hc
     ·
      refine wp_skip (hK15 _ _ ?_)
      refine wp_seq_k fun K24 hK24 => ?_
      refine rg mixed y23 zz23 ?_
      refine .i (v := (.agg #[(.int .u8 (x.k)), (.int .i64 (x.n)), (.string (x.t)), (.slice cn1a (x.ns.length) cn1c), (.slice ci1a (x.xs.length) ci1c)])) (loA (hbs rfl e3) own_b3_2 trivial agg33 sz33 rfl rfl) ?_
      refine .op (φ := IsEx (x) (fun yy => IsT (IsD (Fr W23) (Au.d (ofAV2 (x) yy))) (Is (.int .i64 (ofAE2 (x) yy))))) (st_ex1 fun yy => (st_t (st_d sub_all) (st_is _))) (sp_call1 (φ1 := Is (.agg #[(.int .u8 (x.k)), (.int .i64 (x.n)), (.string (x.t)), (.slice cn1a (x.ns.length) cn1c), (.slice ci1a (x.xs.length) ci1c)])) ent16 (hlc rfl) (fun g u1 W hk hgk h1 => by have h1 : u1 = _ := h1; subst u1; exact (authOfP_ok u (x) hx W _ _ (Nat.le_trans hu (Nat.le_trans kw.size hk.size)) (pin_sa hP hu) hav ((rdV_in (x := x) ht1 D_cn1 D_ci1 : Rd W23 (SA w S [b7_19, b5_9, b3_2, b2_2]) (V.d (x)) _).ext hk)).mono (fun _ _ ⟨v, h1, h2, y, h3, r1, h4, h5⟩ => ⟨v, h1, h2, y, h3, r1, _, h4, fresh_d hk hgk h5, rfl⟩))) ?_
      refine .op (φ := IsEx (x) (fun yy => IsT (IsD (Fr W23) (Au.d (ofAV2 (x) yy))) (Is (.int .i64 (ofAE2 (x) yy))))) (st_ex1 fun yy => (st_t (st_d sub_all) (st_is _))) (sp_move (hlc rfl)) ?_
      refine .done ⟨by kernel_rfl, fun a25 g W25 y25 zz25 hk hg hV hR hP => ?_⟩
      obtain ⟨e57, -, -, -⟩ := hV
      replace e3 := (hR 3 rfl).trans e3
      obtain ⟨y57_25, hcp_y57_25, e57⟩ := e57
      replace D_cn1 := D_cn1.ext hk
      replace D_ci1 := D_ci1.ext hk
      obtain ⟨v57_25a, v57_25b, ev, h1, h2⟩ := e57
      have D_v57_25a : Rd W25 (SF w [b7_19, b5_9, b3_2, b2_2]) (Au.d (ofAV2 (x) y57_25)) v57_25a := fr_end (M := [b7_19, b5_9, b3_2, b2_2]) h1 kw [] in_nil (in_cons own_b7_19.lt (in_cons own_b5_9.lt (in_cons own_b3_2.lt (in_cons own_b2_2.lt in_nil))))
      obtain ⟨v57_25a_1a, v57_25a_1c, ev, D_v57_25a_1⟩ := rdAu_out D_v57_25a
      subst ev; clear D_v57_25a
      have h2 : v57_25b = (.int .i64 (ofAE2 (x) y57_25)) := h2
      subst h2
      have e57 : sl a25 57 = (.tuple #[(.agg #[(.int .i64 ((ofAV2 (x) y57_25).th)), (.slice v57_25a_1a (((ofAV2 (x) y57_25).ids).length) v57_25a_1c)]), (.int .i64 (ofAE2 (x) y57_25))]) := ev; clear ev
      replace own_b3_2 := own_b3_2.ext hk
      replace own_b2_2 := own_b2_2.ext hk
      replace own_b5_9 := own_b5_9.ext hk
      replace own_b7_19 := own_b7_19.ext hk
      replace kw := kw.x hk
      clear hR hk hg hP
      refine tail_reg 3 All y25 zz25 st_tr trivial rfl ?_
      refine .i (v := (.agg #[(.int .i64 ((ofAV2 (x) y57_25).th)), (.slice v57_25a_1a (((ofAV2 (x) y57_25).ids).length) v57_25a_1c)])) (sp_extT (hbs rfl e57) rfl) ?_
      refine .i (v := (.int .i64 (ofAE2 (x) y57_25))) (sp_extT (hbs rfl e57) rfl) ?_
      refine .alloc z27 ?_
      refine .done ⟨by kernel_rfl, fun a26 g W26 y26 zz26 hk hg hV hR hP => ?_⟩
      refine tail_nil ?_
      show runTail _ _ _ _ _ _
      obtain ⟨⟨b9_26, e9, hb9, own_b9_26⟩, e61, e60, -⟩ := hV
      have lo_b9_26 : w.heap.size ≤ b9_26 := Nat.le_trans kw.size (hg.lo _ _ hb9)
      have ne_b3_2_b9_26 : b3_2 ≠ b9_26 := Nat.ne_of_lt (Nat.lt_of_lt_of_le own_b3_2.lt (hg.lo _ _ hb9))
      have ne_b2_2_b9_26 : b2_2 ≠ b9_26 := Nat.ne_of_lt (Nat.lt_of_lt_of_le own_b2_2.lt (hg.lo _ _ hb9))
      have ne_b5_9_b9_26 : b5_9 ≠ b9_26 := Nat.ne_of_lt (Nat.lt_of_lt_of_le own_b5_9.lt (hg.lo _ _ hb9))
      have ne_b7_19_b9_26 : b7_19 ≠ b9_26 := Nat.ne_of_lt (Nat.lt_of_lt_of_le own_b7_19.lt (hg.lo _ _ hb9))
      have own_b9_26 : Own W26 b9_26 [(.int .i64 (0)), (.slice none 0 0)] 27 := own_b9_26
      replace e3 := (hR 3 rfl).trans e3
      replace D_cn1 := sa_more D_cn1 hk [b9_26] (in_cons (hg.lo _ _ hb9) in_nil)
      replace D_ci1 := sa_more D_ci1 hk [b9_26] (in_cons (hg.lo _ _ hb9) in_nil)
      replace D_v57_25a_1 := sf_more D_v57_25a_1 hk [b9_26] (in_cons (hg.lo _ _ hb9) in_nil)
      replace e60 := e60.q
      have e61 : sl a26 61 = (.int .i64 (ofAE2 (x) y57_25)) := e61
      replace own_b3_2 := own_b3_2.ext hk
      replace own_b2_2 := own_b2_2.ext hk
      replace own_b5_9 := own_b5_9.ext hk
      replace own_b7_19 := own_b7_19.ext hk
      replace kw := kw.x hk
      clear hR hk hg hP hb9
      refine tail_store (b := b9_26) (o := 0) (v := (.agg #[(.int .i64 ((ofAV2 (x) y57_25).th)), (.slice v57_25a_1a (((ofAV2 (x) y57_25).ids).length) v57_25a_1c)])) e9 e60 sz27 rfl own_b9_26 (lbr rfl) (all_cons rfl (all_cons rfl all_nil)) (fun W27 hs own_b9_26 => ?_)
      have own_b9_26 : Own W27 b9_26 [(.int .i64 ((ofAV2 (x) y57_25).th)), (.slice v57_25a_1a (((ofAV2 (x) y57_25).ids).length) v57_25a_1c)] 27 := own_b9_26
      replace own_b3_2 := own_store own_b3_2 hs ne_b3_2_b9_26
      replace own_b2_2 := own_store own_b2_2 hs ne_b2_2_b9_26
      replace own_b5_9 := own_store own_b5_9 hs ne_b5_9_b9_26
      replace own_b7_19 := own_store own_b7_19 hs ne_b7_19_b9_26
      replace D_cn1 := sa_store D_cn1 hs (by simp)
      replace D_ci1 := sa_store D_ci1 hs (by simp)
      replace D_v57_25a_1 := sf_store D_v57_25a_1 hs (by simp)
      replace kw := keeps_store kw hs lo_b9_26
      clear hs
      refine tail_assign (v := (.int .i64 (ofAE2 (x) y57_25))) e61 (by rw [y26]; exact Nat.le_of_ble_eq_true rfl) (fun a28 y28 zz28 e10 hr => ?_)
      replace y28 := y28.trans y26; replace zz28 := zz28.trans zz26
      replace e3 := (hr 3 (by decide)).trans e3
      replace e9 := (hr 9 (by decide)).trans e9
      replace e60 := (hr 60 (by decide)).trans e60
      replace e61 := (hr 61 (by decide)).trans e61
      clear hr
      refine tail_nil (hK24 _ _ ?_)
      refine wp_seq_k fun K29 hK29 => ?_
      refine wp_seq_k fun K30 hK30 => ?_
      refine rg mixed y28 zz28 ?_
      refine .i (sp_move (hbs rfl e10)) ?_
      refine .i (sp_neq (hlc rfl) Has.cst) ?_
      refine .done ⟨by kernel_rfl, fun a31 g W31 y31 zz31 hk hg hV hR hP => ?_⟩
      obtain ⟨e63, -, -⟩ := hV
      replace e3 := (hR 3 rfl).trans e3
      replace e9 := (hR 9 rfl).trans e9
      replace D_cn1 := D_cn1.ext hk
      replace D_ci1 := D_ci1.ext hk
      replace D_v57_25a_1 := D_v57_25a_1.ext hk
      replace e63 := e63.q
      replace own_b3_2 := own_b3_2.ext hk
      replace own_b2_2 := own_b2_2.ext hk
      replace own_b5_9 := own_b5_9.ext hk
      replace own_b7_19 := own_b7_19.ext hk
      replace own_b9_26 := own_b9_26.ext hk
      replace kw := kw.x hk
      clear hR hk hg hP
      refine tail_nil (hK30 _ _ ?_)
      refine wp_cond_split e63 (fun hc => ?_) (fun hc => ?_)
      ·
       have hd := bne_iff_ne.1 hc
       have hz : ofAV2 x y57_25 = ⟨0, []⟩ := by rw [ofAV2, if_neg hd]
       refine wp_seq_k fun K32 hK32 => ?_
       refine rg mixed y31 zz31 ?_
       refine .i (v := (.agg #[(.int .i64 ((ofAV2 (x) y57_25).th)), (.slice v57_25a_1a (((ofAV2 (x) y57_25).ids).length) v57_25a_1c)])) (loA (hbs rfl e9) own_b9_26 trivial agg27 sz27 rfl rfl) ?_
       refine .i (v := (.agg #[(.int .i64 (0)), (.slice none 0 0)])) (sp_build (vs := []) Try.underlying27 z27 (pl27 Try.underlying27) trivial rfl) ?_
       refine .i (v := (.bool (sameA (ofAV2 (x) y57_25) (Au.mk (0) ([]))))) (sp_call2 (φ1 := IsD (SF w [b9_26, b7_19, b5_9, b3_2, b2_2]) (Au.d ((ofAV2 (x) y57_25)))) (φ2 := IsD (SF w [b9_26, b7_19, b5_9, b3_2, b2_2]) (Au.d (Au.mk (0) ([])))) ent20 ((hlc rfl).dat (rdAu_mk D_v57_25a_1 : Rd W31 (SF w [b9_26, b7_19, b5_9, b3_2, b2_2]) (Au.d ((ofAV2 (x) y57_25))) _) sub_all) ((hlc rfl).dat (rdAu_mk (rd_nil _) : Rd W31 (SF w [b9_26, b7_19, b5_9, b3_2, b2_2]) (Au.d (Au.mk (0) ([]))) _) sub_all) (fun g u1 u2 W hk hgk h1 h2 => refSameA_ok ((ofAV2 (x) y57_25)) (Au.mk (0) ([])) W _ _ _ h1 h2)) ?_
       refine .i (sp_assign (hlc rfl)) ?_
       refine .done ⟨by kernel_rfl, fun a33 g W33 y33 zz33 hk hg hV hR hP => ?_⟩
       obtain ⟨e4, -, -, -, -⟩ := hV
       replace D_cn1 := D_cn1.ext hk
       replace D_ci1 := D_ci1.ext hk
       replace D_v57_25a_1 := D_v57_25a_1.ext hk
       replace e4 := e4.q
       replace own_b3_2 := own_b3_2.ext hk
       replace own_b2_2 := own_b2_2.ext hk
       replace own_b5_9 := own_b5_9.ext hk
       replace own_b7_19 := own_b7_19.ext hk
       replace own_b9_26 := own_b9_26.ext hk
       replace kw := kw.x hk
       clear hR hk hg hP
       refine tail_nil (hK32 _ _ ?_)
       refine wp_ret ?_
       refine (show bodyPost Try.prog Try.f11 _ .ret _ _ from ret1 rfl zz33 e4 ⟨_, rfl, kw, ?_⟩)
       refine congrArg Value.bool ?_
       rw [hz]
       exact (sameA_iff _ _).2 rfl
      ·
       have hbk := back2 hcp_y57_25 (bne_eq_false_iff_eq.1 hc)
       have hmb := mayA_out hbk.1
       have hw2 := authL_wt hbk.1
       have hcb := Nat.le_trans (cnt_wt _) (valV_wt (ofAV2 x y57_25))
       refine wp_skip (hK29 _ _ ?_)
       refine wp_seq_k fun K34 hK34 => ?_
       refine rg mixed y31 zz31 ?_
       refine .i (v := (.agg #[(.int .i64 ((ofAV2 (x) y57_25).th)), (.slice v57_25a_1a (((ofAV2 (x) y57_25).ids).length) v57_25a_1c)])) (loA (hbs rfl e9) own_b9_26 trivial agg27 sz27 rfl rfl) ?_
       refine .op (φ := IsT (IsD (Fr W31) (V.d (valV (ofAV2 (x) y57_25)))) (Is (.int .i64 (valE (ofAV2 (x) y57_25))))) (st_t (st_d sub_all) (st_is _)) (sp_call1 (φ1 := IsD (SF w [b9_26, b7_19, b5_9, b3_2, b2_2]) (Au.d ((ofAV2 (x) y57_25)))) ent50 ((hlc rfl).dat (rdAu_mk D_v57_25a_1 : Rd W31 (SF w [b9_26, b7_19, b5_9, b3_2, b2_2]) (Au.d ((ofAV2 (x) y57_25))) _) sub_all) (fun g u1 W hk hgk h1 => (ValueA_ok ((ofAV2 (x) y57_25)) (by first | exact hw | exact hw2) W _ _ h1).mono (fun _ _ ⟨v, h1, h2, r1, h3, h4⟩ => ⟨v, h1, h2, r1, _, h3, fresh_d hk hgk h4, rfl⟩))) ?_
       refine .op (φ := IsT (IsD (Fr W31) (V.d (valV (ofAV2 (x) y57_25)))) (Is (.int .i64 (valE (ofAV2 (x) y57_25))))) (st_t (st_d sub_all) (st_is _)) (sp_move (hlc rfl)) ?_
       refine .da (X := Fr W31) (e := V.d (valV (ofAV2 (x) y57_25))) (sp_ext2 (hlc rfl) rfl) ?_
       refine .i (v := (.int .i64 (valE (ofAV2 (x) y57_25)))) (sp_ext2' (hlc rfl) rfl) ?_
       refine .alloc z33 ?_
       refine .done ⟨by kernel_rfl, fun a35 g W35 y35 zz35 hk hg hV hR hP => ?_⟩
       obtain ⟨⟨b11_35, e11, hb11, own_b11_35⟩, e71, e70, -, -, -, -⟩ := hV
       have lo_b11_35 : w.heap.size ≤ b11_35 := Nat.le_trans kw.size (hg.lo _ _ hb11)
       have ne_b3_2_b11_35 : b3_2 ≠ b11_35 := Nat.ne_of_lt (Nat.lt_of_lt_of_le own_b3_2.lt (hg.lo _ _ hb11))
       have ne_b2_2_b11_35 : b2_2 ≠ b11_35 := Nat.ne_of_lt (Nat.lt_of_lt_of_le own_b2_2.lt (hg.lo _ _ hb11))
       have ne_b5_9_b11_35 : b5_9 ≠ b11_35 := Nat.ne_of_lt (Nat.lt_of_lt_of_le own_b5_9.lt (hg.lo _ _ hb11))
       have ne_b7_19_b11_35 : b7_19 ≠ b11_35 := Nat.ne_of_lt (Nat.lt_of_lt_of_le own_b7_19.lt (hg.lo _ _ hb11))
       have ne_b9_26_b11_35 : b9_26 ≠ b11_35 := Nat.ne_of_lt (Nat.lt_of_lt_of_le own_b9_26.lt (hg.lo _ _ hb11))
       have own_b11_35 : Own W35 b11_35 [(.int .u8 (0)), (.int .i64 (0)), (.string (⟨#[]⟩)), (.slice none 0 0), (.slice none 0 0)] 33 := own_b11_35
       replace e3 := (hR 3 rfl).trans e3
       replace e9 := (hR 9 rfl).trans e9
       replace D_cn1 := sa_more D_cn1 hk [b11_35] (in_cons (hg.lo _ _ hb11) in_nil)
       replace D_ci1 := sa_more D_ci1 hk [b11_35] (in_cons (hg.lo _ _ hb11) in_nil)
       replace D_v57_25a_1 := sf_more D_v57_25a_1 hk [b11_35] (in_cons (hg.lo _ _ hb11) in_nil)
       obtain ⟨v70_35, ev⟩ : ∃ v, sl a35 70 = v := ⟨_, rfl⟩
       rw [ev] at e70
       have D_v70_35 : Rd W35 (SF w [b11_35, b9_26, b7_19, b5_9, b3_2, b2_2]) (V.d (valV (ofAV2 (x) y57_25))) v70_35 := fr_end (M := [b9_26, b7_19, b5_9, b3_2, b2_2]) e70 kw [b11_35] (in_cons ⟨_, hb11⟩ in_nil) (in_cons own_b9_26.lt (in_cons own_b7_19.lt (in_cons own_b5_9.lt (in_cons own_b3_2.lt (in_cons own_b2_2.lt in_nil)))))
       replace e70 := ev; clear ev
       obtain ⟨cn70_35a, cn70_35c, ci70_35a, ci70_35c, ev, ht_v70_35, D_cn70_35, D_ci70_35⟩ := rdV_out D_v70_35
       subst ev; clear D_v70_35
       have e71 : sl a35 71 = (.int .i64 (valE (ofAV2 (x) y57_25))) := e71
       replace own_b3_2 := own_b3_2.ext hk
       replace own_b2_2 := own_b2_2.ext hk
       replace own_b5_9 := own_b5_9.ext hk
       replace own_b7_19 := own_b7_19.ext hk
       replace own_b9_26 := own_b9_26.ext hk
       replace kw := kw.x hk
       clear hR hk hg hP hb11
       refine tail_store (b := b11_35) (o := 0) (v := (.agg #[(.int .u8 ((valV (ofAV2 (x) y57_25)).k)), (.int .i64 ((valV (ofAV2 (x) y57_25)).n)), (.string ((valV (ofAV2 (x) y57_25)).t)), (.slice cn70_35a (((valV (ofAV2 (x) y57_25)).ns).length) cn70_35c), (.slice ci70_35a (((valV (ofAV2 (x) y57_25)).xs).length) ci70_35c)])) e11 e70 sz33 rfl own_b11_35 (lbr rfl) (all_cons rfl (all_cons rfl (all_cons rfl (all_cons rfl (all_cons rfl all_nil))))) (fun W36 hs own_b11_35 => ?_)
       have own_b11_35 : Own W36 b11_35 [(.int .u8 ((valV (ofAV2 (x) y57_25)).k)), (.int .i64 ((valV (ofAV2 (x) y57_25)).n)), (.string ((valV (ofAV2 (x) y57_25)).t)), (.slice cn70_35a (((valV (ofAV2 (x) y57_25)).ns).length) cn70_35c), (.slice ci70_35a (((valV (ofAV2 (x) y57_25)).xs).length) ci70_35c)] 33 := own_b11_35
       replace own_b3_2 := own_store own_b3_2 hs ne_b3_2_b11_35
       replace own_b2_2 := own_store own_b2_2 hs ne_b2_2_b11_35
       replace own_b5_9 := own_store own_b5_9 hs ne_b5_9_b11_35
       replace own_b7_19 := own_store own_b7_19 hs ne_b7_19_b11_35
       replace own_b9_26 := own_store own_b9_26 hs ne_b9_26_b11_35
       replace D_cn1 := sa_store D_cn1 hs (by simp)
       replace D_ci1 := sa_store D_ci1 hs (by simp)
       replace D_v57_25a_1 := sf_store D_v57_25a_1 hs (by simp)
       replace D_cn70_35 := sf_store D_cn70_35 hs (by simp)
       replace D_ci70_35 := sf_store D_ci70_35 hs (by simp)
       replace kw := keeps_store kw hs lo_b11_35
       clear hs
       refine tail_assign (v := (.int .i64 (valE (ofAV2 (x) y57_25)))) e71 (by rw [y35]; exact Nat.le_of_ble_eq_true rfl) (fun a37 y37 zz37 e12 hr => ?_)
       replace y37 := y37.trans y35; replace zz37 := zz37.trans zz35
       replace e3 := (hr 3 (by decide)).trans e3
       replace e9 := (hr 9 (by decide)).trans e9
       replace e11 := (hr 11 (by decide)).trans e11
       replace e70 := (hr 70 (by decide)).trans e70
       replace e71 := (hr 71 (by decide)).trans e71
       clear hr
       refine tail_nil (hK34 _ _ ?_)
       refine wp_seq_k fun K38 hK38 => ?_
       refine rg mixed y37 zz37 ?_
       refine .i (v := (.agg #[(.int .i64 ((ofAV2 (x) y57_25).th)), (.slice v57_25a_1a (((ofAV2 (x) y57_25).ids).length) v57_25a_1c)])) (loA (hbs rfl e9) own_b9_26 trivial agg27 sz27 rfl rfl) ?_
       refine .i (v := (.bool (mayA (ofAV2 (x) y57_25)))) (sp_call1 (φ1 := IsD (SF w [b11_35, b9_26, b7_19, b5_9, b3_2, b2_2]) (Au.d ((ofAV2 (x) y57_25)))) ent18 ((hlc rfl).dat (rdAu_mk D_v57_25a_1 : Rd W36 (SF w [b11_35, b9_26, b7_19, b5_9, b3_2, b2_2]) (Au.d ((ofAV2 (x) y57_25))) _) sub_all) (fun g u1 W hk hgk h1 => mayA_ok ((ofAV2 (x) y57_25)) W _ _ h1)) ?_
       refine .i (sp_move (hlc rfl)) ?_
       refine .e (t := 74) rfl (hlc rfl) (fun hg => sp_move (hbs rfl e12)) ?_
       refine .e (t := 74) rfl (hlc rfl) (fun hg => sp_eql ((hlc rfl).undE hg) Has.cst) ?_
       refine .i (sp_and (hlc rfl) ((hlc rfl).weak fun hq => hq)) ?_
       refine .i (sp_move (hlc rfl)) ?_
       refine .e (t := 78) (v := (.agg #[(.int .u8 ((valV (ofAV2 (x) y57_25)).k)), (.int .i64 ((valV (ofAV2 (x) y57_25)).n)), (.string ((valV (ofAV2 (x) y57_25)).t)), (.slice cn70_35a (((valV (ofAV2 (x) y57_25)).ns).length) cn70_35c), (.slice ci70_35a (((valV (ofAV2 (x) y57_25)).xs).length) ci70_35c)])) rfl (hlc rfl) (fun hg => loA (hbs rfl e11) own_b11_35 trivial agg33 sz33 rfl rfl) ?_
       refine .e (t := 78) (v := (.agg #[(.int .u8 (x.k)), (.int .i64 (x.n)), (.string (x.t)), (.slice cn1a (x.ns.length) cn1c), (.slice ci1a (x.xs.length) ci1c)])) rfl (hlc rfl) (fun hg => loA (hbs rfl e3) own_b3_2 trivial agg33 sz33 rfl rfl) ?_
       refine .e (t := 78) (v := (.bool (V.beq ((valV (ofAV2 (x) y57_25))) (x)))) rfl (hlc rfl) (fun hg => sp_call2 (φ1 := IsD (SA w S [b11_35, b9_26, b7_19, b5_9, b3_2, b2_2]) (V.d ((valV (ofAV2 (x) y57_25))))) (φ2 := IsD (SA w S [b11_35, b9_26, b7_19, b5_9, b3_2, b2_2]) (V.d (x))) ent34 ((((hlc rfl).undE hg).dat (rdV_in (x := (valV (ofAV2 (x) y57_25))) ht_v70_35 D_cn70_35 D_ci70_35 : Rd W36 (SF w [b11_35, b9_26, b7_19, b5_9, b3_2, b2_2]) (V.d ((valV (ofAV2 (x) y57_25)))) _) sub_all).sup sf_in_sa) (((hlc rfl).undE hg).dat (rdV_in (x := x) ht1 D_cn1 D_ci1 : Rd W36 (SA w S [b11_35, b9_26, b7_19, b5_9, b3_2, b2_2]) (V.d (x)) _) sub_all) (fun g u1 u2 W hk hgk h1 h2 => refSame_all _ ((valV (ofAV2 (x) y57_25))) (x) (Nat.le_refl _) (by first | omega | exact Nat.le_of_ble_eq_true (by kernel_rfl)) W _ _ _ h1 h2)) ?_
       refine .i (sp_and (hlc rfl) ((hlc rfl).weak fun hq => hq)) ?_
       refine .i (sp_assign (hlc rfl)) ?_
       refine .done ⟨by kernel_rfl, fun a39 g W39 y39 zz39 hk hg hV hR hP => ?_⟩
       obtain ⟨e4, -, -, -, -, -, -, -, -, -, -, -, -⟩ := hV
       replace D_cn1 := D_cn1.ext hk
       replace D_ci1 := D_ci1.ext hk
       replace D_v57_25a_1 := D_v57_25a_1.ext hk
       replace D_cn70_35 := D_cn70_35.ext hk
       replace D_ci70_35 := D_ci70_35.ext hk
       replace e4 := e4.q
       replace own_b3_2 := own_b3_2.ext hk
       replace own_b2_2 := own_b2_2.ext hk
       replace own_b5_9 := own_b5_9.ext hk
       replace own_b7_19 := own_b7_19.ext hk
       replace own_b9_26 := own_b9_26.ext hk
       replace own_b11_35 := own_b11_35.ext hk
       replace kw := kw.x hk
       clear hR hk hg hP
       refine tail_nil (hK38 _ _ ?_)
       refine wp_ret ?_
       refine (show bodyPost Try.prog Try.f11 _ .ret _ _ from ret1 rfl zz39 e4 ⟨_, rfl, kw, ?_⟩)
       refine congrArg Value.bool ?_
       have hE : valE (ofAV2 x y57_25) = 0 := by rw [valE, hbk.1]; rfl
       rw [hE, hbk.1, hbk.2, beq_refl]
       exact rfl
    ·
     refine wp_skip (hK15 _ _ ?_)
     refine wp_seq_k fun K40 hK40 => ?_
     refine rg mixed y17 zz17 ?_
     refine .i (v := (.agg #[(.int .u8 (x.k)), (.int .i64 (x.n)), (.string (x.t)), (.slice cn1a (x.ns.length) cn1c), (.slice ci1a (x.xs.length) ci1c)])) (loA (hbs rfl e3) own_b3_2 trivial agg33 sz33 rfl rfl) ?_
     refine .op (φ := IsEx (x) (fun yy => IsT (IsD (Fr W17) (Au.d (ofAV2 (x) yy))) (Is (.int .i64 (ofAE2 (x) yy))))) (st_ex1 fun yy => (st_t (st_d sub_all) (st_is _))) (sp_call1 (φ1 := Is (.agg #[(.int .u8 (x.k)), (.int .i64 (x.n)), (.string (x.t)), (.slice cn1a (x.ns.length) cn1c), (.slice ci1a (x.xs.length) ci1c)])) ent16 (hlc rfl) (fun g u1 W hk hgk h1 => by have h1 : u1 = _ := h1; subst u1; exact (authOfP_ok u (x) hx W _ _ (Nat.le_trans hu (Nat.le_trans kw.size hk.size)) (pin_sa hP hu) hav ((rdV_in (x := x) ht1 D_cn1 D_ci1 : Rd W17 (SA w S [b5_9, b3_2, b2_2]) (V.d (x)) _).ext hk)).mono (fun _ _ ⟨v, h1, h2, y, h3, r1, h4, h5⟩ => ⟨v, h1, h2, y, h3, r1, _, h4, fresh_d hk hgk h5, rfl⟩))) ?_
     refine .op (φ := IsEx (x) (fun yy => IsT (IsD (Fr W17) (Au.d (ofAV2 (x) yy))) (Is (.int .i64 (ofAE2 (x) yy))))) (st_ex1 fun yy => (st_t (st_d sub_all) (st_is _))) (sp_move (hlc rfl)) ?_
     refine .done ⟨by kernel_rfl, fun a41 g W41 y41 zz41 hk hg hV hR hP => ?_⟩
     obtain ⟨e57, -, -, -⟩ := hV
     replace e3 := (hR 3 rfl).trans e3
     obtain ⟨y57_41, hcp_y57_41, e57⟩ := e57
     replace D_p0_1 := D_p0_1.ext hk
     replace D_cn1 := D_cn1.ext hk
     replace D_ci1 := D_ci1.ext hk
     replace D_cn29_9 := D_cn29_9.ext hk
     replace D_ci29_9 := D_ci29_9.ext hk
     obtain ⟨v57_41a, v57_41b, ev, h1, h2⟩ := e57
     have D_v57_41a : Rd W41 (SF w [b5_9, b3_2, b2_2]) (Au.d (ofAV2 (x) y57_41)) v57_41a := fr_end (M := [b5_9, b3_2, b2_2]) h1 kw [] in_nil (in_cons own_b5_9.lt (in_cons own_b3_2.lt (in_cons own_b2_2.lt in_nil)))
     obtain ⟨v57_41a_1a, v57_41a_1c, ev, D_v57_41a_1⟩ := rdAu_out D_v57_41a
     subst ev; clear D_v57_41a
     have h2 : v57_41b = (.int .i64 (ofAE2 (x) y57_41)) := h2
     subst h2
     have e57 : sl a41 57 = (.tuple #[(.agg #[(.int .i64 ((ofAV2 (x) y57_41).th)), (.slice v57_41a_1a (((ofAV2 (x) y57_41).ids).length) v57_41a_1c)]), (.int .i64 (ofAE2 (x) y57_41))]) := ev; clear ev
     replace own_b3_2 := own_b3_2.ext hk
     replace own_b2_2 := own_b2_2.ext hk
     replace own_b5_9 := own_b5_9.ext hk
     replace kw := kw.x hk
     clear hR hk hg hP
     refine tail_reg 3 All y41 zz41 st_tr trivial rfl ?_
     refine .i (v := (.agg #[(.int .i64 ((ofAV2 (x) y57_41).th)), (.slice v57_41a_1a (((ofAV2 (x) y57_41).ids).length) v57_41a_1c)])) (sp_extT (hbs rfl e57) rfl) ?_
     refine .i (v := (.int .i64 (ofAE2 (x) y57_41))) (sp_extT (hbs rfl e57) rfl) ?_
     refine .alloc z27 ?_
     refine .done ⟨by kernel_rfl, fun a42 g W42 y42 zz42 hk hg hV hR hP => ?_⟩
     refine tail_nil ?_
     show runTail _ _ _ _ _ _
     obtain ⟨⟨b9_42, e9, hb9, own_b9_42⟩, e61, e60, -⟩ := hV
     have lo_b9_42 : w.heap.size ≤ b9_42 := Nat.le_trans kw.size (hg.lo _ _ hb9)
     have ne_b3_2_b9_42 : b3_2 ≠ b9_42 := Nat.ne_of_lt (Nat.lt_of_lt_of_le own_b3_2.lt (hg.lo _ _ hb9))
     have ne_b2_2_b9_42 : b2_2 ≠ b9_42 := Nat.ne_of_lt (Nat.lt_of_lt_of_le own_b2_2.lt (hg.lo _ _ hb9))
     have ne_b5_9_b9_42 : b5_9 ≠ b9_42 := Nat.ne_of_lt (Nat.lt_of_lt_of_le own_b5_9.lt (hg.lo _ _ hb9))
     have own_b9_42 : Own W42 b9_42 [(.int .i64 (0)), (.slice none 0 0)] 27 := own_b9_42
     replace e3 := (hR 3 rfl).trans e3
     replace D_cn1 := sa_more D_cn1 hk [b9_42] (in_cons (hg.lo _ _ hb9) in_nil)
     replace D_ci1 := sa_more D_ci1 hk [b9_42] (in_cons (hg.lo _ _ hb9) in_nil)
     replace D_v57_41a_1 := sf_more D_v57_41a_1 hk [b9_42] (in_cons (hg.lo _ _ hb9) in_nil)
     replace e60 := e60.q
     have e61 : sl a42 61 = (.int .i64 (ofAE2 (x) y57_41)) := e61
     replace own_b3_2 := own_b3_2.ext hk
     replace own_b2_2 := own_b2_2.ext hk
     replace own_b5_9 := own_b5_9.ext hk
     replace kw := kw.x hk
     clear hR hk hg hP hb9
     refine tail_store (b := b9_42) (o := 0) (v := (.agg #[(.int .i64 ((ofAV2 (x) y57_41).th)), (.slice v57_41a_1a (((ofAV2 (x) y57_41).ids).length) v57_41a_1c)])) e9 e60 sz27 rfl own_b9_42 (lbr rfl) (all_cons rfl (all_cons rfl all_nil)) (fun W43 hs own_b9_42 => ?_)
     have own_b9_42 : Own W43 b9_42 [(.int .i64 ((ofAV2 (x) y57_41).th)), (.slice v57_41a_1a (((ofAV2 (x) y57_41).ids).length) v57_41a_1c)] 27 := own_b9_42
     replace own_b3_2 := own_store own_b3_2 hs ne_b3_2_b9_42
     replace own_b2_2 := own_store own_b2_2 hs ne_b2_2_b9_42
     replace own_b5_9 := own_store own_b5_9 hs ne_b5_9_b9_42
     replace D_cn1 := sa_store D_cn1 hs (by simp)
     replace D_ci1 := sa_store D_ci1 hs (by simp)
     replace D_v57_41a_1 := sf_store D_v57_41a_1 hs (by simp)
     replace kw := keeps_store kw hs lo_b9_42
     clear hs
     refine tail_assign (v := (.int .i64 (ofAE2 (x) y57_41))) e61 (by rw [y42]; exact Nat.le_of_ble_eq_true rfl) (fun a44 y44 zz44 e10 hr => ?_)
     replace y44 := y44.trans y42; replace zz44 := zz44.trans zz42
     replace e3 := (hr 3 (by decide)).trans e3
     replace e9 := (hr 9 (by decide)).trans e9
     replace e60 := (hr 60 (by decide)).trans e60
     replace e61 := (hr 61 (by decide)).trans e61
     clear hr
     refine tail_nil (hK40 _ _ ?_)
     refine wp_seq_k fun K45 hK45 => ?_
     refine wp_seq_k fun K46 hK46 => ?_
     refine rg mixed y44 zz44 ?_
     refine .i (sp_move (hbs rfl e10)) ?_
     refine .i (sp_neq (hlc rfl) Has.cst) ?_
     refine .done ⟨by kernel_rfl, fun a47 g W47 y47 zz47 hk hg hV hR hP => ?_⟩
     obtain ⟨e63, -, -⟩ := hV
     replace e3 := (hR 3 rfl).trans e3
     replace e9 := (hR 9 rfl).trans e9
     replace D_cn1 := D_cn1.ext hk
     replace D_ci1 := D_ci1.ext hk
     replace D_v57_41a_1 := D_v57_41a_1.ext hk
     replace e63 := e63.q
     replace own_b3_2 := own_b3_2.ext hk
     replace own_b2_2 := own_b2_2.ext hk
     replace own_b5_9 := own_b5_9.ext hk
     replace own_b9_42 := own_b9_42.ext hk
     replace kw := kw.x hk
     clear hR hk hg hP
     refine tail_nil (hK46 _ _ ?_)
     refine wp_cond_split e63 (fun hc => ?_) (fun hc => ?_)
     ·
      have hd := bne_iff_ne.1 hc
      have hz : ofAV2 x y57_41 = ⟨0, []⟩ := by rw [ofAV2, if_neg hd]
      refine wp_seq_k fun K48 hK48 => ?_
      refine rg mixed y47 zz47 ?_
      refine .i (v := (.agg #[(.int .i64 ((ofAV2 (x) y57_41).th)), (.slice v57_41a_1a (((ofAV2 (x) y57_41).ids).length) v57_41a_1c)])) (loA (hbs rfl e9) own_b9_42 trivial agg27 sz27 rfl rfl) ?_
      refine .i (v := (.agg #[(.int .i64 (0)), (.slice none 0 0)])) (sp_build (vs := []) Try.underlying27 z27 (pl27 Try.underlying27) trivial rfl) ?_
      refine .i (v := (.bool (sameA (ofAV2 (x) y57_41) (Au.mk (0) ([]))))) (sp_call2 (φ1 := IsD (SF w [b9_42, b5_9, b3_2, b2_2]) (Au.d ((ofAV2 (x) y57_41)))) (φ2 := IsD (SF w [b9_42, b5_9, b3_2, b2_2]) (Au.d (Au.mk (0) ([])))) ent20 ((hlc rfl).dat (rdAu_mk D_v57_41a_1 : Rd W47 (SF w [b9_42, b5_9, b3_2, b2_2]) (Au.d ((ofAV2 (x) y57_41))) _) sub_all) ((hlc rfl).dat (rdAu_mk (rd_nil _) : Rd W47 (SF w [b9_42, b5_9, b3_2, b2_2]) (Au.d (Au.mk (0) ([]))) _) sub_all) (fun g u1 u2 W hk hgk h1 h2 => refSameA_ok ((ofAV2 (x) y57_41)) (Au.mk (0) ([])) W _ _ _ h1 h2)) ?_
      refine .i (sp_assign (hlc rfl)) ?_
      refine .done ⟨by kernel_rfl, fun a49 g W49 y49 zz49 hk hg hV hR hP => ?_⟩
      obtain ⟨e4, -, -, -, -⟩ := hV
      replace D_cn1 := D_cn1.ext hk
      replace D_ci1 := D_ci1.ext hk
      replace D_v57_41a_1 := D_v57_41a_1.ext hk
      replace e4 := e4.q
      replace own_b3_2 := own_b3_2.ext hk
      replace own_b2_2 := own_b2_2.ext hk
      replace own_b5_9 := own_b5_9.ext hk
      replace own_b9_42 := own_b9_42.ext hk
      replace kw := kw.x hk
      clear hR hk hg hP
      refine tail_nil (hK48 _ _ ?_)
      refine wp_ret ?_
      refine (show bodyPost Try.prog Try.f11 _ .ret _ _ from ret1 rfl zz49 e4 ⟨_, rfl, kw, ?_⟩)
      refine congrArg Value.bool ?_
      rw [hz]
      exact (sameA_iff _ _).2 rfl
     ·
      have hbk := back2 hcp_y57_41 (bne_eq_false_iff_eq.1 hc)
      have hmb := mayA_out hbk.1
      have hw2 := authL_wt hbk.1
      have hcb := Nat.le_trans (cnt_wt _) (valV_wt (ofAV2 x y57_41))
      refine wp_skip (hK45 _ _ ?_)
      refine wp_seq_k fun K50 hK50 => ?_
      refine rg mixed y47 zz47 ?_
      refine .i (v := (.agg #[(.int .i64 ((ofAV2 (x) y57_41).th)), (.slice v57_41a_1a (((ofAV2 (x) y57_41).ids).length) v57_41a_1c)])) (loA (hbs rfl e9) own_b9_42 trivial agg27 sz27 rfl rfl) ?_
      refine .op (φ := IsT (IsD (Fr W47) (V.d (valV (ofAV2 (x) y57_41)))) (Is (.int .i64 (valE (ofAV2 (x) y57_41))))) (st_t (st_d sub_all) (st_is _)) (sp_call1 (φ1 := IsD (SF w [b9_42, b5_9, b3_2, b2_2]) (Au.d ((ofAV2 (x) y57_41)))) ent50 ((hlc rfl).dat (rdAu_mk D_v57_41a_1 : Rd W47 (SF w [b9_42, b5_9, b3_2, b2_2]) (Au.d ((ofAV2 (x) y57_41))) _) sub_all) (fun g u1 W hk hgk h1 => (ValueA_ok ((ofAV2 (x) y57_41)) (by first | exact hw | exact hw2) W _ _ h1).mono (fun _ _ ⟨v, h1, h2, r1, h3, h4⟩ => ⟨v, h1, h2, r1, _, h3, fresh_d hk hgk h4, rfl⟩))) ?_
      refine .op (φ := IsT (IsD (Fr W47) (V.d (valV (ofAV2 (x) y57_41)))) (Is (.int .i64 (valE (ofAV2 (x) y57_41))))) (st_t (st_d sub_all) (st_is _)) (sp_move (hlc rfl)) ?_
      refine .da (X := Fr W47) (e := V.d (valV (ofAV2 (x) y57_41))) (sp_ext2 (hlc rfl) rfl) ?_
      refine .i (v := (.int .i64 (valE (ofAV2 (x) y57_41)))) (sp_ext2' (hlc rfl) rfl) ?_
      refine .alloc z33 ?_
      refine .done ⟨by kernel_rfl, fun a51 g W51 y51 zz51 hk hg hV hR hP => ?_⟩
      obtain ⟨⟨b11_51, e11, hb11, own_b11_51⟩, e71, e70, -, -, -, -⟩ := hV
      have lo_b11_51 : w.heap.size ≤ b11_51 := Nat.le_trans kw.size (hg.lo _ _ hb11)
      have ne_b3_2_b11_51 : b3_2 ≠ b11_51 := Nat.ne_of_lt (Nat.lt_of_lt_of_le own_b3_2.lt (hg.lo _ _ hb11))
      have ne_b2_2_b11_51 : b2_2 ≠ b11_51 := Nat.ne_of_lt (Nat.lt_of_lt_of_le own_b2_2.lt (hg.lo _ _ hb11))
      have ne_b5_9_b11_51 : b5_9 ≠ b11_51 := Nat.ne_of_lt (Nat.lt_of_lt_of_le own_b5_9.lt (hg.lo _ _ hb11))
      have ne_b9_42_b11_51 : b9_42 ≠ b11_51 := Nat.ne_of_lt (Nat.lt_of_lt_of_le own_b9_42.lt (hg.lo _ _ hb11))
      have own_b11_51 : Own W51 b11_51 [(.int .u8 (0)), (.int .i64 (0)), (.string (⟨#[]⟩)), (.slice none 0 0), (.slice none 0 0)] 33 := own_b11_51
      replace e3 := (hR 3 rfl).trans e3
      replace e9 := (hR 9 rfl).trans e9
      replace D_cn1 := sa_more D_cn1 hk [b11_51] (in_cons (hg.lo _ _ hb11) in_nil)
      replace D_ci1 := sa_more D_ci1 hk [b11_51] (in_cons (hg.lo _ _ hb11) in_nil)
      replace D_v57_41a_1 := sf_more D_v57_41a_1 hk [b11_51] (in_cons (hg.lo _ _ hb11) in_nil)
      obtain ⟨v70_51, ev⟩ : ∃ v, sl a51 70 = v := ⟨_, rfl⟩
      rw [ev] at e70
      have D_v70_51 : Rd W51 (SF w [b11_51, b9_42, b5_9, b3_2, b2_2]) (V.d (valV (ofAV2 (x) y57_41))) v70_51 := fr_end (M := [b9_42, b5_9, b3_2, b2_2]) e70 kw [b11_51] (in_cons ⟨_, hb11⟩ in_nil) (in_cons own_b9_42.lt (in_cons own_b5_9.lt (in_cons own_b3_2.lt (in_cons own_b2_2.lt in_nil))))
      replace e70 := ev; clear ev
      obtain ⟨cn70_51a, cn70_51c, ci70_51a, ci70_51c, ev, ht_v70_51, D_cn70_51, D_ci70_51⟩ := rdV_out D_v70_51
      subst ev; clear D_v70_51
      have e71 : sl a51 71 = (.int .i64 (valE (ofAV2 (x) y57_41))) := e71
      replace own_b3_2 := own_b3_2.ext hk
      replace own_b2_2 := own_b2_2.ext hk
      replace own_b5_9 := own_b5_9.ext hk
      replace own_b9_42 := own_b9_42.ext hk
      replace kw := kw.x hk
      clear hR hk hg hP hb11
      refine tail_store (b := b11_51) (o := 0) (v := (.agg #[(.int .u8 ((valV (ofAV2 (x) y57_41)).k)), (.int .i64 ((valV (ofAV2 (x) y57_41)).n)), (.string ((valV (ofAV2 (x) y57_41)).t)), (.slice cn70_51a (((valV (ofAV2 (x) y57_41)).ns).length) cn70_51c), (.slice ci70_51a (((valV (ofAV2 (x) y57_41)).xs).length) ci70_51c)])) e11 e70 sz33 rfl own_b11_51 (lbr rfl) (all_cons rfl (all_cons rfl (all_cons rfl (all_cons rfl (all_cons rfl all_nil))))) (fun W52 hs own_b11_51 => ?_)
      have own_b11_51 : Own W52 b11_51 [(.int .u8 ((valV (ofAV2 (x) y57_41)).k)), (.int .i64 ((valV (ofAV2 (x) y57_41)).n)), (.string ((valV (ofAV2 (x) y57_41)).t)), (.slice cn70_51a (((valV (ofAV2 (x) y57_41)).ns).length) cn70_51c), (.slice ci70_51a (((valV (ofAV2 (x) y57_41)).xs).length) ci70_51c)] 33 := own_b11_51
      replace own_b3_2 := own_store own_b3_2 hs ne_b3_2_b11_51
      replace own_b2_2 := own_store own_b2_2 hs ne_b2_2_b11_51
      replace own_b5_9 := own_store own_b5_9 hs ne_b5_9_b11_51
      replace own_b9_42 := own_store own_b9_42 hs ne_b9_42_b11_51
      replace D_cn1 := sa_store D_cn1 hs (by simp)
      replace D_ci1 := sa_store D_ci1 hs (by simp)
      replace D_v57_41a_1 := sf_store D_v57_41a_1 hs (by simp)
      replace D_cn70_51 := sf_store D_cn70_51 hs (by simp)
      replace D_ci70_51 := sf_store D_ci70_51 hs (by simp)
      replace kw := keeps_store kw hs lo_b11_51
      clear hs
      refine tail_assign (v := (.int .i64 (valE (ofAV2 (x) y57_41)))) e71 (by rw [y51]; exact Nat.le_of_ble_eq_true rfl) (fun a53 y53 zz53 e12 hr => ?_)
      replace y53 := y53.trans y51; replace zz53 := zz53.trans zz51
      replace e3 := (hr 3 (by decide)).trans e3
      replace e9 := (hr 9 (by decide)).trans e9
      replace e11 := (hr 11 (by decide)).trans e11
      replace e70 := (hr 70 (by decide)).trans e70
      replace e71 := (hr 71 (by decide)).trans e71
      clear hr
      refine tail_nil (hK50 _ _ ?_)
      refine wp_seq_k fun K54 hK54 => ?_
      refine rg mixed y53 zz53 ?_
      refine .i (v := (.agg #[(.int .i64 ((ofAV2 (x) y57_41).th)), (.slice v57_41a_1a (((ofAV2 (x) y57_41).ids).length) v57_41a_1c)])) (loA (hbs rfl e9) own_b9_42 trivial agg27 sz27 rfl rfl) ?_
      refine .i (v := (.bool (mayA (ofAV2 (x) y57_41)))) (sp_call1 (φ1 := IsD (SF w [b11_51, b9_42, b5_9, b3_2, b2_2]) (Au.d ((ofAV2 (x) y57_41)))) ent18 ((hlc rfl).dat (rdAu_mk D_v57_41a_1 : Rd W52 (SF w [b11_51, b9_42, b5_9, b3_2, b2_2]) (Au.d ((ofAV2 (x) y57_41))) _) sub_all) (fun g u1 W hk hgk h1 => mayA_ok ((ofAV2 (x) y57_41)) W _ _ h1)) ?_
      refine .i (sp_move (hlc rfl)) ?_
      refine .e (t := 74) rfl (hlc rfl) (fun hg => sp_move (hbs rfl e12)) ?_
      refine .e (t := 74) rfl (hlc rfl) (fun hg => sp_eql ((hlc rfl).undE hg) Has.cst) ?_
      refine .i (sp_and (hlc rfl) ((hlc rfl).weak fun hq => hq)) ?_
      refine .i (sp_move (hlc rfl)) ?_
      refine .e (t := 78) (v := (.agg #[(.int .u8 ((valV (ofAV2 (x) y57_41)).k)), (.int .i64 ((valV (ofAV2 (x) y57_41)).n)), (.string ((valV (ofAV2 (x) y57_41)).t)), (.slice cn70_51a (((valV (ofAV2 (x) y57_41)).ns).length) cn70_51c), (.slice ci70_51a (((valV (ofAV2 (x) y57_41)).xs).length) ci70_51c)])) rfl (hlc rfl) (fun hg => loA (hbs rfl e11) own_b11_51 trivial agg33 sz33 rfl rfl) ?_
      refine .e (t := 78) (v := (.agg #[(.int .u8 (x.k)), (.int .i64 (x.n)), (.string (x.t)), (.slice cn1a (x.ns.length) cn1c), (.slice ci1a (x.xs.length) ci1c)])) rfl (hlc rfl) (fun hg => loA (hbs rfl e3) own_b3_2 trivial agg33 sz33 rfl rfl) ?_
      refine .e (t := 78) (v := (.bool (V.beq ((valV (ofAV2 (x) y57_41))) (x)))) rfl (hlc rfl) (fun hg => sp_call2 (φ1 := IsD (SA w S [b11_51, b9_42, b5_9, b3_2, b2_2]) (V.d ((valV (ofAV2 (x) y57_41))))) (φ2 := IsD (SA w S [b11_51, b9_42, b5_9, b3_2, b2_2]) (V.d (x))) ent34 ((((hlc rfl).undE hg).dat (rdV_in (x := (valV (ofAV2 (x) y57_41))) ht_v70_51 D_cn70_51 D_ci70_51 : Rd W52 (SF w [b11_51, b9_42, b5_9, b3_2, b2_2]) (V.d ((valV (ofAV2 (x) y57_41)))) _) sub_all).sup sf_in_sa) (((hlc rfl).undE hg).dat (rdV_in (x := x) ht1 D_cn1 D_ci1 : Rd W52 (SA w S [b11_51, b9_42, b5_9, b3_2, b2_2]) (V.d (x)) _) sub_all) (fun g u1 u2 W hk hgk h1 h2 => refSame_all _ ((valV (ofAV2 (x) y57_41))) (x) (Nat.le_refl _) (by first | omega | exact Nat.le_of_ble_eq_true (by kernel_rfl)) W _ _ _ h1 h2)) ?_
      refine .i (sp_and (hlc rfl) ((hlc rfl).weak fun hq => hq)) ?_
      refine .i (sp_assign (hlc rfl)) ?_
      refine .done ⟨by kernel_rfl, fun a55 g W55 y55 zz55 hk hg hV hR hP => ?_⟩
      obtain ⟨e4, -, -, -, -, -, -, -, -, -, -, -, -⟩ := hV
      replace D_cn1 := D_cn1.ext hk
      replace D_ci1 := D_ci1.ext hk
      replace D_v57_41a_1 := D_v57_41a_1.ext hk
      replace D_cn70_51 := D_cn70_51.ext hk
      replace D_ci70_51 := D_ci70_51.ext hk
      replace e4 := e4.q
      replace own_b3_2 := own_b3_2.ext hk
      replace own_b2_2 := own_b2_2.ext hk
      replace own_b5_9 := own_b5_9.ext hk
      replace own_b9_42 := own_b9_42.ext hk
      replace own_b11_51 := own_b11_51.ext hk
      replace kw := kw.x hk
      clear hR hk hg hP
      refine tail_nil (hK54 _ _ ?_)
      refine wp_ret ?_
      refine (show bodyPost Try.prog Try.f11 _ .ret _ _ from ret1 rfl zz55 e4 ⟨_, rfl, kw, ?_⟩)
      refine congrArg Value.bool ?_
      have hE : valE (ofAV2 x y57_41) = 0 := by rw [valE, hbk.1]; rfl
      rw [hE, hbk.1, hbk.2, beq_refl]
      exact rfl
end Go.Proofs.Ytnobijngkpflcaa
namespace Go.Eng
open Go.ChangeShapes Go.WideShapes Go.ChangeAt Go.RowKit
def Univ : BSet := fun _ _ => True
mutual
def HasT (P : Program) : D → TypeId → Prop
  | .bool _, t => P.underlying t = some .bool
  | .int k n, t => P.underlying t = some (.int k) ∧ (Lit.int k n).wf = true
  | .str s, t => P.underlying t = some .string ∧ s.size ≤ maxLen
  | .lst sz xs, t => ∃ e, P.underlying t = some (.slice e) ∧ sz = P.cellsOf e ∧ HasTL P xs e
  | .agg xs, t => ∃ fs, P.underlying t = some (.struct fs) ∧ HasTF P xs (fs.toList.map (·.type))
def HasTL (P : Program) : List D → TypeId → Prop
  | [], _ => True
  | x :: xs, e => HasT P x e ∧ HasTL P xs e
def HasTF (P : Program) : List D → List TypeId → Prop
  | [], [] => True
  | x :: xs, t :: ts => HasT P x t ∧ HasTF P xs ts
  | _, _ => False
end
theorem hasTL_of {P : Program} {e : TypeId} : ∀ (xs : List D), (∀ i (h : i < xs.length), HasT P xs[i] e) → HasTL P xs e
  | [], _ => by simp [HasTL]
  | x :: xs, h => by
    simp only [HasTL]
    exact ⟨h 0 (by simp), hasTL_of xs fun i hi => h (i + 1) (by simpa using hi)⟩
def offs (P : Program) : List Field → Nat → Option Nat
  | [], o => some o
  | f :: r, o => if f.offset = o then offs P r (o + P.cellsOf f.type) else none
def plain1 (P : Program) (ts : List TypeId) (t : TypeId) : Bool := match P.underlying t with
  | some .bool => true
  | some (.int _) => true
  | some .string => true
  | some (.slice e) => ts.contains e && decide (0 < P.cellsOf e)
  | some (.struct fs) => (fs.toList.all fun f => ts.contains f.type) && decide (offs P fs.toList 0 = some (P.cellsOf t))
  | _ => false
theorem exists_list {α : Type} {p : Nat → α → Prop} : ∀ n : Nat, (∀ i, i < n → ∃ x, p i x) → ∃ xs : List α, xs.length = n ∧ ∀ i (h : i < xs.length), p i xs[i]
  | 0, _ => ⟨[], rfl, fun i h => by simp at h⟩
  | n + 1, h => by
    obtain ⟨xs, hl, hx⟩ := exists_list n fun i hi => h i (by omega)
    obtain ⟨x, hp⟩ := h n (by omega)
    refine ⟨xs ++ [x], by simp [hl], fun i hi => ?_⟩
    by_cases hin : i < n
    · rw [List.getElem_append_left (by omega)]; exact hx i (by omega)
    · have : i = n := by simp at hi; omega
      subst this
      rw [List.getElem_append_right (by omega)]; simpa [hl] using hp
section
variable {H : Type} {enc : TypeId × Value → H} {P : Program} {W : World}
theorem fields_rd {n : Nat} {cs : List Value} {ts : List TypeId} (ih : ∀ t c y, t ∈ ts → DataW.trod enc P W 0 (fun _ => true) true n t c = some y → ∃ d, RdC W Univ d c ∧ HasT P d t) :
    ∀ (fs : List Field) (o : Nat), offs P fs o = some cs.length → (∀ f ∈ fs, f.type ∈ ts) → (∀ f ∈ fs, ∃ y, DataW.trod enc P W 0 (fun _ => true) true n f.type ((cs.drop f.offset).take (P.cellsOf f.type)) = some y) →
      ∃ ds, RdF W Univ ds (cs.drop o) ∧ HasTF P ds (fs.map (·.type))
  | [], o, ho, _, _ => by
    simp only [offs, Option.some.injEq] at ho
    subst ho
    exact ⟨[], by simp [RdF], by simp [HasTF]⟩
  | f :: fs, o, ho, hm, hr => by
    simp only [offs] at ho
    split at ho
    · rename_i hoff
      subst hoff
      obtain ⟨ds, h1, h2⟩ := fields_rd ih fs _ ho (fun g hg => hm g (List.mem_cons_of_mem _ hg)) (fun g hg => hr g (List.mem_cons_of_mem _ hg))
      obtain ⟨y, hy⟩ := hr f List.mem_cons_self
      obtain ⟨d, h3, h4⟩ := ih _ _ _ (hm f List.mem_cons_self) hy
      refine ⟨d :: ds, ?_, by simp only [List.map_cons, HasTF]; exact ⟨h4, h2⟩⟩
      simp only [RdF]
      exact ⟨_, _, by rw [← List.drop_drop]; exact (List.take_append_drop _ _).symm, h3, h1⟩
    · cases ho
theorem trod_rd {ts : List TypeId} (hp : (ts.all (plain1 P ts)) = true) : ∀ (n : Nat) (t : TypeId) (cs : List Value) (y : DataW H × List MemPlace), t ∈ ts → DataW.trod enc P W 0 (fun _ => true) true n t cs = some y → ∃ d, RdC W Univ d cs ∧ HasT P d t := by
  intro n
  induction n with
  | zero => intro t cs y _ h; simp [DataW.trod] at h
  | succ n ih =>
    intro t cs y ht h
    have hpt := List.all_eq_true.1 hp t ht
    unfold plain1 at hpt
    split at hpt
    · rename_i hu
      obtain ⟨b, rfl, _⟩ := DataW.trod_bool hu h
      exact ⟨.bool b, by simp [RdC], by simp [HasT, hu]⟩
    · rename_i k hu
      obtain ⟨b, rfl, _, hw⟩ := DataW.trod_int hu h
      exact ⟨.int k b, by simp [RdC], by simp [HasT, hu, hw]⟩
    · rename_i hu
      obtain ⟨s, rfl, _, hw⟩ := DataW.trod_string hu h
      exact ⟨.str s, by simp [RdC, hw], by simp [HasT, hu, hw]⟩
    · rename_i e hu
      simp only [Bool.and_eq_true, decide_eq_true_eq] at hpt
      have het : e ∈ ts := by simpa using hpt.1
      rcases DataW.trod_slice hu h with ⟨rfl, _⟩ | ⟨a, len, cap, elems, rest, n', hn', rfl, _, _, hlc, hcm, hle, hel, _⟩
      · exact ⟨.lst (P.cellsOf e) [], by simp only [RdC]; exact ⟨none, 0, rfl, by simp, by simp, .inl trivial⟩, by simp only [HasT]; exact ⟨e, hu, rfl, by simp [HasTL]⟩⟩
      · have hnn : n' = n := by omega
        subst hnn
        have each : ∀ i, i < len → ∃ d, (∃ c, c.length = P.cellsOf e ∧ CellsAt W a.block (a.off + i * P.cellsOf e) c ∧ RdC W Univ d c) ∧ HasT P d e := by
          intro i hi
          have h1 := hel i hi
          rw [List.getElem?_eq_getElem (by omega), Option.bind_eq_some_iff] at h1
          obtain ⟨c, hc, hy⟩ := h1
          obtain ⟨d, h2, h3⟩ := ih e c _ het hy
          obtain ⟨_, hlen, hcell⟩ := World.cells?_some hc
          have hoff : ∀ j, W.cell? ((a.add (i * P.cellsOf e)).add j) = none ∨ (a.add (i * P.cellsOf e)).add j = ⟨a.block, a.off + i * P.cellsOf e + j, none⟩ := by
            intro j
            by_cases hsp : (a.add (i * P.cellsOf e)).spot.isSome = true ∧ j = 0
            · left
              obtain ⟨h4, rfl⟩ := hsp
              have : ((a.add (i * P.cellsOf e)).add 0) = a.add (i * P.cellsOf e) := by simp [Addr.add]
              rw [this]
              unfold World.cell?
              split <;> simp [h4]
            · right
              unfold Addr.add at hsp ⊢
              by_cases h0 : i * P.cellsOf e = 0
              · simp only [h0, if_true] at hsp ⊢
                by_cases hj : j = 0
                · subst hj
                  simp at hsp
                  cases a; simp_all
                · simp [hj]
              · simp only [h0, if_false] at hsp ⊢
                by_cases hj : j = 0 <;> simp [hj]
          refine ⟨d, ⟨c, hlen, fun j hj => ?_, h2⟩, h3⟩
          have h5 := hcell j (by omega)
          rw [List.getElem?_eq_getElem hj] at h5
          rcases hoff j with h6 | h6
          · rw [h6] at h5; cases h5
          · rw [h6] at h5; exact h5
        obtain ⟨ds, hdl, hd⟩ := exists_list len each
        refine ⟨.lst (P.cellsOf e) ds, ?_, by simp only [HasT]; exact ⟨e, hu, rfl, hasTL_of ds fun i hi => (hd i hi).2⟩⟩
        simp only [RdC]
        refine ⟨some a, cap, by rw [hdl], by omega, hcm, ?_⟩
        by_cases h0 : len = 0
        · left; exact List.length_eq_zero_iff.1 (by omega)
        · right
          obtain ⟨c, hcl, hc, _⟩ := (hd 0 (by omega)).1
          have hc0 := hc 0 (by omega)
          have hsp : a.spot = none := by
            have h1 := hel 0 (by omega)
            rw [List.getElem?_eq_getElem (by omega), Option.bind_eq_some_iff] at h1
            obtain ⟨c', hc', _⟩ := h1
            have h2 := (World.cells?_some hc').2.2 0 hpt.2
            have h3 := (World.cells?_some hc').2.1
            rw [List.getElem?_eq_getElem (by omega)] at h2
            simp only [Nat.zero_mul, Addr.add, if_true] at h2
            unfold World.cell? at h2
            split at h2
            · split at h2
              · cases h2
              · rename_i hs; simpa using hs
            · cases h2
          have hblk : a.block < W.heap.size := by
            simp only [Nat.zero_mul, Nat.add_zero] at hc0
            unfold World.cell? at hc0
            split at hc0
            · rename_i hq; exact (Array.getElem?_eq_some_iff.1 hq).1
            · cases hc0
          exact ⟨a.block, a.off, by cases a; simp_all, trivial, hblk, RdL.of fun i hi => (hd i hi).1⟩
    · rename_i fs hu
      simp only [Bool.and_eq_true, decide_eq_true_eq, List.all_eq_true] at hpt
      obtain ⟨xs, n', hn', _, hlen, hxl, hfs⟩ := DataW.trod_struct hu h
      have hnn : n' = n := by omega
      subst hnn
      obtain ⟨ds, h1, h2⟩ := fields_rd (cs := cs) ih fs.toList 0 (by rw [hlen]; exact hpt.2) (fun f hf => by simpa using hpt.1 f hf) (fun f hf => by
        obtain ⟨i, hi⟩ := List.getElem?_of_mem hf
        have hi' : fs[i]? = some f := by simpa using hi
        have hil : i < fs.size := (Array.getElem?_eq_some_iff.1 hi').1
        exact ⟨xs[i], by rw [hfs i f hi']; exact List.getElem?_eq_getElem (by omega)⟩)
      exact ⟨.agg ds, by simpa [RdC] using h1, by simp only [HasT]; exact ⟨fs, hu, h2⟩⟩
    · cases hpt
theorem arg_struct {ts : List TypeId} {t : TypeId} {fs : Array Field} {v : Value} {d : DataW H} {ps : List MemPlace} {base : Nat} (hp : (ts.all (plain1 P ts)) = true) (ht : t ∈ ts) (hu : P.underlying t = some (.struct fs)) (hval : Value.okWide P W .any base t v)
    (h : DataW.Trod enc P W 0 (fun _ => true) true t v d ps) : ∃ dd, Rd W Univ dd v ∧ HasT P dd t := by
  obtain ⟨n, h⟩ := h
  obtain ⟨dd, h1, h2⟩ := trod_rd hp n t _ _ ht h
  refine ⟨dd, ⟨_, h1, ?_⟩, h2⟩
  unfold Value.okWide at hval
  rw [hu] at hval
  obtain ⟨cs, rfl, _⟩ := hval
  cases dd with
  | agg xs => simp [asm, Value.cells]
  | bool b => simp [HasT, hu] at h2
  | int k m => simp [HasT, hu] at h2
  | str s => simp [HasT, hu] at h2
  | lst sz xs => simp [HasT, hu] at h2
theorem hasT_strs {t : TypeId} (hs : P.underlying t = some .string) : ∀ xs : List D, HasTL P xs t → ∃ ns : List ByteArray, xs = ns.map D.str
  | [], _ => ⟨[], rfl⟩
  | x :: xs, h => by
    simp only [HasTL] at h
    obtain ⟨ns, rfl⟩ := hasT_strs hs xs h.2
    cases x with
    | str s => exact ⟨s :: ns, rfl⟩
    | bool b => simp [HasT, hs] at h
    | int k m => simp [HasT, hs] at h
    | lst sz xs => simp [HasT, hs] at h
    | agg xs => simp [HasT, hs] at h
structure VT (P : Program) (tV tK tN tS tNs tXs : TypeId) : Prop where
  v : ((P.underlying tV).bind fun | .struct fs => some (fs.toList.map (·.type)) | _ => none) = some [tK, tN, tS, tNs, tXs]
  k : P.underlying tK = some (.int .u8)
  n : P.underlying tN = some (.int .i64)
  s : P.underlying tS = some .string
  ns : P.underlying tNs = some (.slice tS)
  xs : P.underlying tXs = some (.slice tV)
  c1 : P.cellsOf tS = 1
  c5 : P.cellsOf tV = 5
theorem hasT_int {t : TypeId} {k : IntKind} (hu : P.underlying t = some (.int k)) : ∀ d : D, HasT P d t → ∃ n, d = .int k n ∧ (Lit.int k n).wf = true
  | .int k' n, h => by simp only [HasT, hu, Option.some.injEq, TypeDesc.int.injEq] at h; obtain ⟨rfl, h⟩ := h; exact ⟨n, rfl, h⟩
  | .bool b, h => by simp [HasT, hu] at h
  | .str s, h => by simp [HasT, hu] at h
  | .lst sz xs, h => by simp [HasT, hu] at h
  | .agg xs, h => by simp [HasT, hu] at h
theorem hasT_str {t : TypeId} (hu : P.underlying t = some .string) : ∀ d : D, HasT P d t → ∃ s, d = .str s ∧ s.size ≤ maxLen
  | .str s, h => by simp only [HasT] at h; exact ⟨s, rfl, h.2⟩
  | .bool b, h => by simp [HasT, hu] at h
  | .int k n, h => by simp [HasT, hu] at h
  | .lst sz xs, h => by simp [HasT, hu] at h
  | .agg xs, h => by simp [HasT, hu] at h
theorem hasT_lst {t e : TypeId} (hu : P.underlying t = some (.slice e)) : ∀ d : D, HasT P d t → ∃ xs, d = .lst (P.cellsOf e) xs ∧ HasTL P xs e
  | .lst sz xs, h => by
    simp only [HasT, hu, Option.some.injEq, TypeDesc.slice.injEq] at h
    obtain ⟨e', rfl, rfl, h⟩ := h
    exact ⟨xs, rfl, h⟩
  | .bool b, h => by simp [HasT, hu] at h
  | .int k n, h => by simp [HasT, hu] at h
  | .str s, h => by simp [HasT, hu] at h
  | .agg xs, h => by simp [HasT, hu] at h
theorem hasT_agg {t : TypeId} {ts : List TypeId} (hu : ((P.underlying t).bind fun | .struct fs => some (fs.toList.map (·.type)) | _ => none) = some ts) : ∀ d : D, HasT P d t → ∃ xs, d = .agg xs ∧ HasTF P xs ts
  | .agg xs, h => by
    simp only [HasT] at h
    obtain ⟨fs, h1, h2⟩ := h
    rw [h1] at hu
    simp only [Option.bind_some, Option.some.injEq] at hu
    subst hu
    exact ⟨xs, rfl, h2⟩
  | .bool b, h => by simp only [HasT] at h; rw [h] at hu; simp at hu
  | .int k n, h => by simp only [HasT] at h; rw [h.1] at hu; simp at hu
  | .str s, h => by simp only [HasT] at h; rw [h.1] at hu; simp at hu
  | .lst sz xs, h => by simp only [HasT] at h; obtain ⟨e, h1, _⟩ := h; rw [h1] at hu; simp at hu
theorem hasV {tV tK tN tS tNs tXs : TypeId} (q : VT P tV tK tN tS tNs tXs) : ∀ (n : Nat) (d : D), SizeOf.sizeOf d < n → HasT P d tV → ∃ x : V, d = x.d := by
  intro n
  induction n with
  | zero => intro d h; omega
  | succ n ih =>
    intro d hn h
    obtain ⟨xs, rfl, hf⟩ := hasT_agg q.v d h
    match xs, hf with
    | [a, b, c, e, f], hf =>
      simp only [HasTF] at hf
      obtain ⟨ha, hb, hc, he, hf, -⟩ := hf
      obtain ⟨k, rfl, hk⟩ := hasT_int q.k _ ha
      obtain ⟨m, rfl, hm⟩ := hasT_int q.n _ hb
      obtain ⟨t, rfl, _⟩ := hasT_str q.s _ hc
      obtain ⟨l1, rfl, h1⟩ := hasT_lst q.ns _ he
      obtain ⟨l2, rfl, h2⟩ := hasT_lst q.xs _ hf
      obtain ⟨ns, rfl⟩ := hasT_strs q.s l1 h1
      have key : ∀ l : List D, SizeOf.sizeOf l < n → HasTL P l tV → ∃ ys : List V, l = ys.map V.d := by
        intro l
        induction l with
        | nil => intro _ _; exact ⟨[], rfl⟩
        | cons x l ihl =>
          intro hl hx
          simp only [HasTL] at hx
          simp only [List.cons.sizeOf_spec] at hl
          obtain ⟨y, rfl⟩ := ih x (by omega) hx.1
          obtain ⟨ys, rfl⟩ := ihl (by omega) hx.2
          exact ⟨y :: ys, rfl⟩
      obtain ⟨ys, rfl⟩ := key l2 (by
        simp only [D.agg.sizeOf_spec, List.cons.sizeOf_spec, D.lst.sizeOf_spec] at hn
        omega) h2
      refine ⟨V.mk k.toNat m t ns ys, ?_⟩
      have hk0 : (k.toNat : Int) = k := by
        simp only [Lit.wf, Bool.and_eq_true, decide_eq_true_eq] at hk
        have h0 : IntKind.min .u8 = 0 := by decide
        have : (0 : Int) ≤ k := by have := hk.1; rw [h0] at this; exact this
        omega
      rw [V.d_eq]
      simp only [V.k, V.n, V.t, V.ns, V.xs, hk0, q.c1, q.c5, strsD, valsD]
    | [], hf => simp [HasTF] at hf
    | [_], hf => simp [HasTF] at hf
    | [_, _], hf => simp [HasTF] at hf
    | [_, _, _], hf => simp [HasTF] at hf
    | [_, _, _, _], hf => simp [HasTF] at hf
    | _ :: _ :: _ :: _ :: _ :: _ :: _, hf => simp [HasTF] at hf
theorem arg_V {tV tK tN tS tNs tXs : TypeId} (q : VT P tV tK tN tS tNs tXs) {ts : List TypeId} {fs : Array Field} {v : Value} {d : DataW H} {ps : List MemPlace} {base : Nat} (hp : (ts.all (plain1 P ts)) = true) (ht : tV ∈ ts) (hu : P.underlying tV = some (.struct fs)) (hval : Value.okWide P W .any base tV v)
    (h : DataW.Trod enc P W 0 (fun _ => true) true tV v d ps) : ∃ x : V, Rd W Univ x.d v := by
  obtain ⟨dd, h1, h2⟩ := arg_struct hp ht hu hval h
  obtain ⟨x, rfl⟩ := hasV q _ dd (Nat.lt_succ_self _) h2
  exact ⟨x, h1⟩
theorem trodAll_stays (hl : laidOutB P = true) {W' : World} (hb : Below W.heap.size W W') : ∀ (ts : List TypeId) (vs : List Value) (ds : List (DataW H)) (ps : List MemPlace), (∀ t ∈ ts, P.readableRec t = true ∧ t < P.types.size) → (∀ x ∈ ps, x.block < W.heap.size) →
    DataW.TrodAll enc P W 0 (fun _ => true) true ts vs ds ps → DataW.TrodAll enc P W' 0 (fun b => decide (b < W.heap.size)) true ts vs ds ps
  | [], [], [], _, _, _, h => h
  | t :: ts, v :: vs, d :: ds, ps, ht, hlt, h => by
    obtain ⟨p, q, h1, h2, rfl⟩ := h
    exact ⟨p, q, Below.trod hl (ht t List.mem_cons_self).1 (ht t List.mem_cons_self).2 h1 hb (fun x hx => hlt x (List.mem_append_left _ hx)),
      trodAll_stays hl hb ts vs ds q (fun t h => ht t (List.mem_cons_of_mem _ h)) (fun x hx => hlt x (List.mem_append_right _ hx)) h2, rfl⟩
  | [], [], _ :: _, _, _, _, h => h.elim
  | [], _ :: _, _, _, _, _, h => h.elim
  | _ :: _, [], _, _, _, _, h => h.elim
  | _ :: _, _ :: _, [], _, _, _, h => h.elim
theorem law_post {f : Func} {s : ChangeSpec} {W' : World} {args : Array Value} {ds gs : List (DataW H)} {before : List MemPlace} {tb : TypeId} (hl : laidOutB P = true) (hpar : ∀ t ∈ f.params.toList, P.readableRec t = true ∧ t < P.types.size)
    (hvars : s.vars = []) (hrt : f.resultTypes = #[tb]) (hb : P.underlying tb = some .bool) (hfn : s.fn H (ds ++ gs) = { results := [.lit (.bool true)], args := ds })
    (hW : DataW.Whole enc P f.params.toList s.vars false W args.toList ds gs before) (hk : Ext W W') : s.post enc P f false true false false W args (.bool true) W' := by
  have hlt := hW.lt
  have hW' := hW
  obtain ⟨p, q, hA, hV, rfl, hfz, hnd⟩ := hW
  have hbel : Below W.heap.size W W' := ⟨hk.os, hk.tape, hk.output, hk.size, fun k h => hk.block k h trivial⟩
  refine ⟨ds, gs, p ++ q, [], p, [], hW', ?_, ?_, ?_, ?_, fun h => by cases h⟩
  · rw [hfn, hrt]
    exact ⟨[], [], ⟨1, by simp [Value.resultList, Value.cells, DataW.trod, hb]⟩, rfl, rfl⟩
  · rw [hfn]
    exact trodAll_stays hl hbel _ _ _ _ hpar (fun x hx => hlt x (List.mem_append_left _ hx)) hA
  · rw [hfn, hvars]; rfl
  · refine ⟨hk.os, hk.output, fun i hi => ?_⟩
    rw [hk.block i hi trivial]
    cases hq : W.heap[i]? with
    | none => rfl
    | some o => cases o <;> simp
end
end Go.Eng
namespace Go.Eng
open Go.ChangeShapes Go.WideShapes Go.ChangeAt Go.RowKit
structure AuT (P : Program) (tA tN tSs tS : TypeId) : Prop where
  v : ((P.underlying tA).bind fun | .struct fs => some (fs.toList.map (·.type)) | _ => none) = some [tN, tSs]
  n : P.underlying tN = some (.int .i64)
  ss : P.underlying tSs = some (.slice tS)
  s : P.underlying tS = some .string
  c1 : P.cellsOf tS = 1
theorem hasAu {P : Program} {tA tN tSs tS : TypeId} (q : AuT P tA tN tSs tS) (d : D) (h : HasT P d tA) : ∃ a : Au, d = a.d := by
  obtain ⟨xs, rfl, hf⟩ := hasT_agg q.v d h
  match xs, hf with
  | [a, b], hf =>
    simp only [HasTF] at hf
    obtain ⟨ha, hb, -⟩ := hf
    obtain ⟨m, rfl, _⟩ := hasT_int q.n _ ha
    obtain ⟨l, rfl, h1⟩ := hasT_lst q.ss _ hb
    obtain ⟨ns, rfl⟩ := hasT_strs q.s l h1
    exact ⟨⟨m, ns⟩, by simp only [Au.d, strsD, q.c1]⟩
  | [], hf => simp [HasTF] at hf
  | [_], hf => simp [HasTF] at hf
  | _ :: _ :: _ :: _, hf => simp [HasTF] at hf
theorem arg_Au {H : Type} {enc : TypeId × Value → H} {P : Program} {W : World} {tA tN tSs tS : TypeId} (q : AuT P tA tN tSs tS) {ts : List TypeId} {fs : Array Field} {v : Value} {d : DataW H} {ps : List MemPlace} {base : Nat} (hp : (ts.all (plain1 P ts)) = true) (ht : tA ∈ ts) (hu : P.underlying tA = some (.struct fs)) (hval : Value.okWide P W .any base tA v)
    (h : DataW.Trod enc P W 0 (fun _ => true) true tA v d ps) : ∃ a : Au, Rd W Univ a.d v := by
  obtain ⟨dd, h1, h2⟩ := arg_struct hp ht hu hval h
  obtain ⟨a, rfl⟩ := hasAu q dd h2
  exact ⟨a, h1⟩
end Go.Eng
namespace Go.Eng
open Go.ChangeShapes Go.WideShapes Go.ChangeAt Go.RowKit
def AtW (w : World) : BSet := fun b o => o = w.heap[b]?
theorem rd_atW {w : World} {d : D} {v : Value} (h : Rd w Univ d v) : Rd w (AtW w) d v :=
  let ⟨cs, h1, h2⟩ := h; ⟨cs, rdc_move (S' := AtW w) (Nat.le_refl _) (fun _ _ _ => ⟨rfl, rfl⟩) _ _ h1, h2⟩
theorem pin_atW (w : World) : Pin w (AtW w) := fun _ _ h _ => h
def offsOf (P : Program) (t : TypeId) : Option (List (Nat × TypeId)) := (P.underlying t).bind fun | .struct fs => some (fs.toList.map fun f => (f.offset, f.type)) | _ => none
structure VO (P : Program) (tV tK tN tS tNs tXs : TypeId) : Prop where
  v : offsOf P tV = some [(0, tK), (1, tN), (2, tS), (3, tNs), (4, tXs)]
  xs : P.underlying tXs = some (.slice tV)
  c1 : P.cellsOf tXs = 1
  c5 : P.cellsOf tV = 5
section
variable {H : Type} {enc : TypeId × Value → H} {P : Program} {W : World}
def NoF (W : World) (ps : List MemPlace) : Prop := ∀ b off, MemPlace.cell b off ∈ ps → W.frozen? ⟨b, off, none⟩ = false
theorem trod_f4 {tV tK tN tS tNs tXs : TypeId} (q : VO P tV tK tN tS tNs tXs) {n : Nat} {c : List Value} {y : DataW H × List MemPlace} (h : DataW.trod enc P W 0 (fun _ => true) true n tV c = some y) (hy : NoF W y.2) :
    ∃ n' cc z, c[4]? = some cc ∧ DataW.trod enc P W 0 (fun _ => true) true n' tXs [cc] = some z ∧ NoF W z.2 := by
  have hv := q.v
  unfold offsOf at hv
  cases hu : P.underlying tV with
  | none => rw [hu] at hv; cases hv
  | some td =>
    rw [hu] at hv
    cases td with
    | struct fs =>
      simp only [Option.bind_some, Option.some.injEq] at hv
      obtain ⟨xs, n', hn', hx, hlen, hxl, hfs⟩ := DataW.trod_struct hu h
      have h4 : (fs.toList.map fun f => (f.offset, f.type))[4]? = some (4, tXs) := by rw [hv]; rfl
      rw [List.getElem?_map] at h4
      cases hf : fs.toList[4]? with
      | none => rw [hf] at h4; cases h4
      | some f =>
        rw [hf] at h4
        simp only [Option.map_some, Option.some.injEq, Prod.mk.injEq] at h4
        have h5 := hfs 4 f (by simpa using hf)
        rw [h4.1, h4.2, q.c1] at h5
        have hcl : c.length = 5 := hlen.trans q.c5
        have hsz : 4 < fs.size := by
          have := (List.getElem?_eq_some_iff.1 hf).1
          simpa using this
        have hx4 : 4 < xs.length := by omega
        rw [List.getElem?_eq_getElem hx4] at h5
        have hd : (c.drop 4).take 1 = [c[4]'(by omega)] := by
          rw [List.drop_eq_getElem_cons (by omega)]; rfl
        rw [hd] at h5
        refine ⟨n', c[4]'(by omega), xs[4], by simp, h5, fun b off hm => hy b off ?_⟩
        rw [hx]
        exact List.mem_flatMap.2 ⟨_, List.getElem_mem hx4, hm⟩
    | _ => simp at hv
theorem nv_slice {tV tK tN tS tNs tXs : TypeId} (q : VO P tV tK tN tS tNs tXs) : ∀ (m n : Nat) (v : Value) (y : DataW H × List MemPlace), DataW.trod enc P W 0 (fun _ => true) true n tXs [v] = some y → NoF W y.2 → NV W m v
  | 0, _, _, _, _, _ => trivial
  | m + 1, n, v, y, h, hy => by
    intro a len cap hv i hi
    subst hv
    rcases DataW.trod_slice q.xs h with ⟨h1, _⟩ | ⟨a', len', cap', elems, rest, n', hn', hcs, hx, _, hlc, hcm, hle, hel, _⟩
    · simp at h1
    · simp only [List.cons.injEq, Value.slice.injEq, Option.some.injEq, and_true] at hcs
      obtain ⟨rfl, rfl, rfl⟩ := hcs
      have h1 := hel i hi
      rw [List.getElem?_eq_getElem (by omega), Option.bind_eq_some_iff] at h1
      obtain ⟨c, hc, ht⟩ := h1
      obtain ⟨_, hcl, hcell⟩ := World.cells?_some hc
      rw [q.c5] at hcl hcell
      have hmem : NoF W (elems[i]'(by omega)).2 := fun b off hm => hy b off (by
        rw [hx]
        exact List.mem_append_right _ (List.mem_flatMap.2 ⟨_, List.mem_append_left _ (List.getElem_mem _), hm⟩))
      obtain ⟨n2, cc, z, h4, h5, h6⟩ := trod_f4 q ht hmem
      have hcc := hcell 4 (by omega)
      have had : ((a.add (i * 5)).add 4) = ⟨a.block, a.off + i * 5 + 4, none⟩ := by
        unfold Addr.add
        by_cases h0 : i * 5 = 0 <;> simp [h0]
      rw [had, h4] at hcc
      refine ⟨?_, hy _ _ ?_, fun c2 hc2 => ?_⟩
      · unfold World.cell? at hcc
        split at hcc
        · rename_i hq; exact (Array.getElem?_eq_some_iff.1 hq).1
        · cases hcc
      · rw [hx]
        refine List.mem_append_left _ (List.mem_map.2 ⟨i * 5, List.mem_range.2 ?_, rfl⟩)
        rw [q.c5]
        have : i * 5 < elems.length * 5 := by omega
        have h9 : elems.length * 5 ≤ (elems.length + rest.length) * 5 := Nat.mul_le_mul_right _ (by omega)
        omega
      · rw [hcc] at hc2
        cases hc2
        exact nv_slice q m n2 _ _ h5 h6
theorem arg_AV {tV tK tN tS tNs tXs : TypeId} (q : VO P tV tK tN tS tNs tXs) {v : Value} {d : DataW H} {ps : List MemPlace} (h : DataW.Trod enc P W 0 (fun _ => true) true tV v d ps) (hp : NoF W ps) : AVv W v := by
  obtain ⟨n, h⟩ := h
  intro c0 c1 c2 c3 c4 hv m
  subst hv
  obtain ⟨n', cc, z, h4, h5, h6⟩ := trod_f4 q h hp
  simp [Value.cells] at h4
  subst h4
  exact nv_slice q m n' _ _ h5 h6
end
end Go.Eng
namespace Go.Proofs.Ytnobijngkpflcaa
open Go.Eng Go.ChangeShapes Go.WideShapes Go.ChangeAt Go.RowKit
theorem Try.own : ownKnob Try.prog.godebug = none := by kernel_rfl
theorem Try.laidOut : laidOutB Try.prog = true := by kernel_rfl
theorem vt : VT Try.prog 33 5 2 9 23 31 := ⟨by kernel_rfl, Try.underlying5, Try.underlying2, Try.underlying9, Try.underlying23, Try.underlying31, by kernel_rfl, by kernel_rfl⟩
theorem vo : VO Try.prog 33 5 2 9 23 31 := ⟨by kernel_rfl, Try.underlying31, by kernel_rfl, by kernel_rfl⟩
theorem aut : AuT Try.prog 27 3 23 9 := ⟨by kernel_rfl, Try.underlying3, Try.underlying23, Try.underlying9, by kernel_rfl⟩
set_option maxRecDepth 100000 in
theorem AuthBack_lifted (os : Os) (started : os.Started) (H : Type) (enc : TypeId × Value → H) :
    ReturnsInHanded {} Try.checked os 11 .any (Rows.authBackSpec.pre6 enc Try.prog Try.f11 Rows.authBackRow.domain false) (Rows.authBackSpec.post enc Try.prog Try.f11 false true false false) := by
  refine returnsInHanded_of_change (C := Try.checked) Try.own started (by kernel_rfl) Try.func11
    (ChangeSpec.witness6 (enc := enc) (C := Try.checked) false ⟨#[], #[.agg #[(.int .i64 (0)), (.slice none 0 0)], .agg #[(.int .u8 (0)), (.int .i64 (0)), (.string (⟨#[]⟩)), (.slice none 0 0), (.slice none 0 0)]], []⟩ 8 (by kernel_rfl) (by kernel_rfl) (by kernel_rfl) (by kernel_rfl)) ?_
  intro W base args ds gs before hval0 hW hcnd _
  have hval : ∀ (j : Nat) t v, Try.f11.params[j]? = some t → args[j]? = some v → Value.okWide Try.prog W .any base t v := hval0
  have hW' := hW
  obtain ⟨p, q, hA0, hV, rfl, hfz, hnd⟩ := hW
  have hA : DataW.TrodAll enc Try.prog W 0 (fun _ => true) true Try.f11.params.toList args.toList ds p := hA0
  rw [Try.params11] at hA hval
  obtain ⟨v0, v1, d0, d1, p0, p1, rfl, rfl, rfl, h0, h1⟩ := trodAll_two hA
  obtain ⟨rfl, rfl⟩ := trodVars_none hV
  obtain ⟨x0, r0⟩ := arg_Au aut (ts := [27, 3, 23, 9]) (by kernel_rfl) (by decide) Try.underlying27 (hval 0 27 v0 rfl rfl) h0
  obtain ⟨x1, r1⟩ := arg_V vt (ts := [33, 5, 2, 9, 23, 31]) (by kernel_rfl) (by decide) Try.underlying33 (hval 1 33 v1 rfl rfl) h1
  have a1 : AVv W v1 := arg_AV vo h1 fun b off hm => hfz b off (by simp only [List.mem_append]; simp [hm])
  refine (AuthBack_ok W x0 x1 W (AtW W) v0 v1 (Nat.le_refl _) (pin_atW W) a1 (rd_atW r0) (rd_atW r1)).mono fun e W' ⟨v, he, hk, hv⟩ => ?_
  subst hv
  exact ⟨_, he, law_post Try.laidOut (of_decide_eq_true (by kernel_rfl)) rfl (tb := 4) (by kernel_rfl) Try.underlying4 rfl hW' hk⟩
theorem authBack_holds : Rows.AuthBackSaid :=
  OpenClaim.holds_of_wide 11 Try.f11 rfl rfl rfl rfl rfl rfl rfl ⟨rfl, rfl, rfl, rfl, rfl⟩ rfl rfl rfl rfl rfl (by kernel_rfl) Try.func11 (by kernel_rfl)
    (of_decide_eq_true (by kernel_rfl)) (by unfold Func.isWrapper; first | (rw [if_pos (by decide +kernel)]; kernel_rfl) | (rw [if_neg (by decide +kernel)]; exact ⟨rfl, rfl⟩))
    (fun os started H enc _ => AuthBack_lifted os started H enc)
end Go.Proofs.Ytnobijngkpflcaa
