/-
  The law PickFirst of package legatelaw11 returns true for every input, and leaves its arguments as they were. No condition beyond the row's own.
-/
import Derived.Test.YtnobijngkpflcaaPf4
import Derived.ProofKit
namespace Go.Proofs.Ytnobijngkpflcaa
open Go.Eng
set_option maxRecDepth 100000 in
set_option maxHeartbeats 2000000 in
theorem awake11_ok (w : World) : Calls Try.prog 28 #[] w (Ret w fun u _ => u = .bool true) := by
  refine enter Try.func28 rfl Try.ntmps28 (lbr rfl) fun a0 y0 zz0 harg => ?_
  have kw := Keeps.refl All w
  clear harg
  refine wp_seq_k fun K1 hK1 => ?_
  refine rg mixed y0 zz0 ?_
  refine .i (sp_assign Has.cst) ?_
  refine .done ⟨by kernel_rfl, fun a2 g W2 y2 zz2 hk hg hV hR hP => ?_⟩
  obtain ⟨-, -⟩ := hV
  replace kw := kw.x hk
  clear hR hk hg hP
  refine tail_nil (hK1 _ _ ?_)
  refine wp_seq_k fun K3 hK3 => ?_
  refine rg mixed y2 zz2 ?_
  refine .i (v := (.agg #[(.int .u8 (3)), (.int .i64 (0)), (.string (⟨#[120]⟩)), (.slice none 0 0), (.slice none 0 0)])) (sp_call1 (φ1 := Is (.string (⟨#[120]⟩))) ent37 Has.cst (fun g u1 W hk hgk h1 => by have h1 : u1 = _ := h1; subst u1; exact pkText_ok (⟨#[120]⟩) W)) ?_
  refine .i (v := (.agg #[(.string (⟨#[98]⟩)), (.int .u8 (3)), (.int .i64 (0)), (.string (⟨#[120]⟩)), (.slice none 0 0), (.slice none 0 0)])) (sp_build (vs := [(0, (.string (⟨#[98]⟩))), (1, (.agg #[(.int .u8 (3)), (.int .i64 (0)), (.string (⟨#[120]⟩)), (.slice none 0 0), (.slice none 0 0)]))]) Try.underlying67 z67 (pl67 Try.underlying67) ⟨rfl, Has.cst, rfl, (hlc rfl), trivial⟩ (by kernel_rfl)) ?_
  refine .i (v := (.agg #[(.int .u8 (2)), (.int .i64 (1)), (.string (⟨#[]⟩)), (.slice none 0 0), (.slice none 0 0)])) (sp_call1 (φ1 := Is (.int .i64 (1))) ent39 Has.cst (fun g u1 W hk hgk h1 => by have h1 : u1 = _ := h1; subst u1; exact pkNum_ok (1) W)) ?_
  refine .i (v := (.agg #[(.string (⟨#[97]⟩)), (.int .u8 (2)), (.int .i64 (1)), (.string (⟨#[]⟩)), (.slice none 0 0), (.slice none 0 0)])) (sp_build (vs := [(0, (.string (⟨#[97]⟩))), (1, (.agg #[(.int .u8 (2)), (.int .i64 (1)), (.string (⟨#[]⟩)), (.slice none 0 0), (.slice none 0 0)]))]) Try.underlying67 z67 (pl67 Try.underlying67) ⟨rfl, Has.cst, rfl, (hlc rfl), trivial⟩ (by kernel_rfl)) ?_
  refine .da (X := SF w []) (e := mbsD ([Mb.mk (⟨#[98]⟩) (V.mk (3) (0) (⟨#[120]⟩) ([]) ([])), Mb.mk (⟨#[97]⟩) (V.mk (2) (1) (⟨#[]⟩) ([]) ([]))])) (sp_bsl (ds := [Mb.d (Mb.mk (⟨#[98]⟩) (V.mk (3) (0) (⟨#[120]⟩) ([]) ([]))), Mb.d (Mb.mk (⟨#[97]⟩) (V.mk (2) (1) (⟨#[]⟩) ([]) ([])))]) Try.underlying82 sz67 z67 (lbr rfl) (lbr rfl) ⟨rfl, ((hlc rfl).dat (rdMb_mk (lbr rfl) (rdV_mk (Nat.le_of_ble_eq_true (by kernel_rfl)) (rd_nil _) (rd_nil _) : Rd W2 (SF w []) (V.d (V.mk (3) (0) (⟨#[120]⟩) ([]) ([]))) _) : Rd W2 (SF w []) (Mb.d (Mb.mk (⟨#[98]⟩) (V.mk (3) (0) (⟨#[120]⟩) ([]) ([])))) _) sub_all), ⟨rfl, ((hlc rfl).dat (rdMb_mk (lbr rfl) (rdV_mk (by decide) (rd_nil _) (rd_nil _) : Rd W2 (SF w []) (V.d (V.mk (2) (1) (⟨#[]⟩) ([]) ([]))) _) : Rd W2 (SF w []) (Mb.d (Mb.mk (⟨#[97]⟩) (V.mk (2) (1) (⟨#[]⟩) ([]) ([])))) _) sub_all), trivial⟩⟩ rfl (by intro e he; simp at he; rcases he with rfl | rfl <;> exact width_Mb _) (fr_sf kw in_nil)) ?_
  refine .op (φ := IsT (IsD (Fr W2) (V.d (objM ([Mb.mk (⟨#[98]⟩) (V.mk (3) (0) (⟨#[120]⟩) ([]) ([])), Mb.mk (⟨#[97]⟩) (V.mk (2) (1) (⟨#[]⟩) ([]) ([]))])))) (Is (.int .i64 (objE ([Mb.mk (⟨#[98]⟩) (V.mk (3) (0) (⟨#[120]⟩) ([]) ([])), Mb.mk (⟨#[97]⟩) (V.mk (2) (1) (⟨#[]⟩) ([]) ([]))]))))) (st_t (st_d sub_all) (st_is _)) (sp_call1 (φ1 := IsD (SF w []) (mbsD ([Mb.mk (⟨#[98]⟩) (V.mk (3) (0) (⟨#[120]⟩) ([]) ([])), Mb.mk (⟨#[97]⟩) (V.mk (2) (1) (⟨#[]⟩) ([]) ([]))]))) ent38 (hlc rfl) (fun g u1 W hk hgk h1 => (ObjectOf_ok ([Mb.mk (⟨#[98]⟩) (V.mk (3) (0) (⟨#[120]⟩) ([]) ([])), Mb.mk (⟨#[97]⟩) (V.mk (2) (1) (⟨#[]⟩) ([]) ([]))]) (lbr rfl) (lbr rfl) (obw_of (by kernel_rfl)) W _ _ (fun b o h => h.1.2.1) h1).mono (fun _ _ ⟨v, h1, h2, r1, h3, h4⟩ => ⟨v, h1, h2, r1, _, h3, fresh_d hk hgk h4, rfl⟩))) ?_
  refine .op (φ := IsT (IsD (Fr W2) (V.d (objM ([Mb.mk (⟨#[98]⟩) (V.mk (3) (0) (⟨#[120]⟩) ([]) ([])), Mb.mk (⟨#[97]⟩) (V.mk (2) (1) (⟨#[]⟩) ([]) ([]))])))) (Is (.int .i64 (objE ([Mb.mk (⟨#[98]⟩) (V.mk (3) (0) (⟨#[120]⟩) ([]) ([])), Mb.mk (⟨#[97]⟩) (V.mk (2) (1) (⟨#[]⟩) ([]) ([]))]))))) (st_t (st_d sub_all) (st_is _)) (sp_move (hlc rfl)) ?_
  refine .da (X := Fr W2) (e := V.d (objM ([Mb.mk (⟨#[98]⟩) (V.mk (3) (0) (⟨#[120]⟩) ([]) ([])), Mb.mk (⟨#[97]⟩) (V.mk (2) (1) (⟨#[]⟩) ([]) ([]))]))) (sp_ext2 (hlc rfl) rfl) ?_
  refine .i (v := (.int .i64 (objE ([Mb.mk (⟨#[98]⟩) (V.mk (3) (0) (⟨#[120]⟩) ([]) ([])), Mb.mk (⟨#[97]⟩) (V.mk (2) (1) (⟨#[]⟩) ([]) ([]))])))) (sp_ext2' (hlc rfl) rfl) ?_
  refine .alloc z33 ?_
  refine .done ⟨by kernel_rfl, fun a4 g W4 y4 zz4 hk hg hV hR hP => ?_⟩
  obtain ⟨⟨b1_4, e1, hb1, own_b1_4⟩, e16, e15, -, -, -, -, -, -, -, -⟩ := hV
  have lo_b1_4 : w.heap.size ≤ b1_4 := Nat.le_trans kw.size (hg.lo _ _ hb1)
  have own_b1_4 : Own W4 b1_4 [(.int .u8 (0)), (.int .i64 (0)), (.string (⟨#[]⟩)), (.slice none 0 0), (.slice none 0 0)] 33 := own_b1_4
  obtain ⟨v15_4, ev⟩ : ∃ v, sl a4 15 = v := ⟨_, rfl⟩
  rw [ev] at e15
  have D_v15_4 : Rd W4 (SF w [b1_4]) (V.d (objM ([Mb.mk (⟨#[98]⟩) (V.mk (3) (0) (⟨#[120]⟩) ([]) ([])), Mb.mk (⟨#[97]⟩) (V.mk (2) (1) (⟨#[]⟩) ([]) ([]))]))) v15_4 := fr_end (M := []) e15 kw [b1_4] (in_cons ⟨_, hb1⟩ in_nil) in_nil
  replace e15 := ev; clear ev
  obtain ⟨cn15_4a, cn15_4c, ci15_4a, ci15_4c, ev, ht_v15_4, D_cn15_4, D_ci15_4⟩ := rdV_out D_v15_4
  subst ev; clear D_v15_4
  replace e16 := e16.q
  replace kw := kw.x hk
  clear hR hk hg hP hb1
  refine tail_store (b := b1_4) (o := 0) (v := (.agg #[(.int .u8 ((objM ([Mb.mk (⟨#[98]⟩) (V.mk (3) (0) (⟨#[120]⟩) ([]) ([])), Mb.mk (⟨#[97]⟩) (V.mk (2) (1) (⟨#[]⟩) ([]) ([]))])).k)), (.int .i64 ((objM ([Mb.mk (⟨#[98]⟩) (V.mk (3) (0) (⟨#[120]⟩) ([]) ([])), Mb.mk (⟨#[97]⟩) (V.mk (2) (1) (⟨#[]⟩) ([]) ([]))])).n)), (.string ((objM ([Mb.mk (⟨#[98]⟩) (V.mk (3) (0) (⟨#[120]⟩) ([]) ([])), Mb.mk (⟨#[97]⟩) (V.mk (2) (1) (⟨#[]⟩) ([]) ([]))])).t)), (.slice cn15_4a (((objM ([Mb.mk (⟨#[98]⟩) (V.mk (3) (0) (⟨#[120]⟩) ([]) ([])), Mb.mk (⟨#[97]⟩) (V.mk (2) (1) (⟨#[]⟩) ([]) ([]))])).ns).length) cn15_4c), (.slice ci15_4a (((objM ([Mb.mk (⟨#[98]⟩) (V.mk (3) (0) (⟨#[120]⟩) ([]) ([])), Mb.mk (⟨#[97]⟩) (V.mk (2) (1) (⟨#[]⟩) ([]) ([]))])).xs).length) ci15_4c)])) e1 e15 sz33 rfl own_b1_4 (lbr rfl) (all_cons rfl (all_cons rfl (all_cons rfl (all_cons rfl (all_cons rfl all_nil))))) (fun W5 hs own_b1_4 => ?_)
  have own_b1_4 : Own W5 b1_4 [(.int .u8 ((objM ([Mb.mk (⟨#[98]⟩) (V.mk (3) (0) (⟨#[120]⟩) ([]) ([])), Mb.mk (⟨#[97]⟩) (V.mk (2) (1) (⟨#[]⟩) ([]) ([]))])).k)), (.int .i64 ((objM ([Mb.mk (⟨#[98]⟩) (V.mk (3) (0) (⟨#[120]⟩) ([]) ([])), Mb.mk (⟨#[97]⟩) (V.mk (2) (1) (⟨#[]⟩) ([]) ([]))])).n)), (.string ((objM ([Mb.mk (⟨#[98]⟩) (V.mk (3) (0) (⟨#[120]⟩) ([]) ([])), Mb.mk (⟨#[97]⟩) (V.mk (2) (1) (⟨#[]⟩) ([]) ([]))])).t)), (.slice cn15_4a (((objM ([Mb.mk (⟨#[98]⟩) (V.mk (3) (0) (⟨#[120]⟩) ([]) ([])), Mb.mk (⟨#[97]⟩) (V.mk (2) (1) (⟨#[]⟩) ([]) ([]))])).ns).length) cn15_4c), (.slice ci15_4a (((objM ([Mb.mk (⟨#[98]⟩) (V.mk (3) (0) (⟨#[120]⟩) ([]) ([])), Mb.mk (⟨#[97]⟩) (V.mk (2) (1) (⟨#[]⟩) ([]) ([]))])).xs).length) ci15_4c)] 33 := own_b1_4
  replace D_cn15_4 := sf_store D_cn15_4 hs (by simp)
  replace D_ci15_4 := sf_store D_ci15_4 hs (by simp)
  replace kw := keeps_store kw hs lo_b1_4
  clear hs
  refine tail_assign (v := (.int .i64 (objE ([Mb.mk (⟨#[98]⟩) (V.mk (3) (0) (⟨#[120]⟩) ([]) ([])), Mb.mk (⟨#[97]⟩) (V.mk (2) (1) (⟨#[]⟩) ([]) ([]))])))) e16 (by rw [y4]; exact Nat.le_of_ble_eq_true rfl) (fun a6 y6 zz6 e2 hr => ?_)
  replace y6 := y6.trans y4; replace zz6 := zz6.trans zz4
  replace e1 := (hr 1 (by decide)).trans e1
  replace e15 := (hr 15 (by decide)).trans e15
  replace e16 := (hr 16 (by decide)).trans e16
  clear hr
  refine tail_nil (hK3 _ _ ?_)
  refine wp_seq_k fun K7 hK7 => ?_
  refine rg mixed y6 zz6 ?_
  refine .i (v := (.agg #[(.string (⟨#[97]⟩)), (.int .u8 (0)), (.int .i64 (0)), (.string (⟨#[]⟩)), (.slice none 0 0), (.slice none 0 0)])) (sp_build (vs := [(0, (.string (⟨#[97]⟩)))]) Try.underlying67 z67 (pl67 Try.underlying67) ⟨rfl, Has.cst, trivial⟩ rfl) ?_
  refine .i (v := (.agg #[(.string (⟨#[97]⟩)), (.int .u8 (0)), (.int .i64 (0)), (.string (⟨#[]⟩)), (.slice none 0 0), (.slice none 0 0)])) (sp_build (vs := [(0, (.string (⟨#[97]⟩)))]) Try.underlying67 z67 (pl67 Try.underlying67) ⟨rfl, Has.cst, trivial⟩ rfl) ?_
  refine .da (X := SF w [b1_4]) (e := mbsD ([Mb.mk (⟨#[97]⟩) (V.mk (0) (0) (⟨#[]⟩) ([]) ([])), Mb.mk (⟨#[97]⟩) (V.mk (0) (0) (⟨#[]⟩) ([]) ([]))])) (sp_bsl (ds := [Mb.d (Mb.mk (⟨#[97]⟩) (V.mk (0) (0) (⟨#[]⟩) ([]) ([]))), Mb.d (Mb.mk (⟨#[97]⟩) (V.mk (0) (0) (⟨#[]⟩) ([]) ([])))]) Try.underlying82 sz67 z67 (lbr rfl) (lbr rfl) ⟨rfl, ((hlc rfl).dat (rdMb_mk (lbr rfl) (rdV_mk (lbr rfl) (rd_nil _) (rd_nil _) : Rd W5 (SF w [b1_4]) (V.d (V.mk (0) (0) (⟨#[]⟩) ([]) ([]))) _) : Rd W5 (SF w [b1_4]) (Mb.d (Mb.mk (⟨#[97]⟩) (V.mk (0) (0) (⟨#[]⟩) ([]) ([])))) _) sub_all), ⟨rfl, ((hlc rfl).dat (rdMb_mk (lbr rfl) (rdV_mk (lbr rfl) (rd_nil _) (rd_nil _) : Rd W5 (SF w [b1_4]) (V.d (V.mk (0) (0) (⟨#[]⟩) ([]) ([]))) _) : Rd W5 (SF w [b1_4]) (Mb.d (Mb.mk (⟨#[97]⟩) (V.mk (0) (0) (⟨#[]⟩) ([]) ([])))) _) sub_all), trivial⟩⟩ rfl (by intro e he; simp at he; rcases he with rfl | rfl <;> exact width_Mb _) (fr_sf kw (in_cons own_b1_4.lt in_nil))) ?_
  refine .op (φ := IsT (IsD (Fr W5) (V.d (objM ([Mb.mk (⟨#[97]⟩) (V.mk (0) (0) (⟨#[]⟩) ([]) ([])), Mb.mk (⟨#[97]⟩) (V.mk (0) (0) (⟨#[]⟩) ([]) ([]))])))) (Is (.int .i64 (objE ([Mb.mk (⟨#[97]⟩) (V.mk (0) (0) (⟨#[]⟩) ([]) ([])), Mb.mk (⟨#[97]⟩) (V.mk (0) (0) (⟨#[]⟩) ([]) ([]))]))))) (st_t (st_d sub_all) (st_is _)) (sp_call1 (φ1 := IsD (SF w [b1_4]) (mbsD ([Mb.mk (⟨#[97]⟩) (V.mk (0) (0) (⟨#[]⟩) ([]) ([])), Mb.mk (⟨#[97]⟩) (V.mk (0) (0) (⟨#[]⟩) ([]) ([]))]))) ent38 (hlc rfl) (fun g u1 W hk hgk h1 => (ObjectOf_ok ([Mb.mk (⟨#[97]⟩) (V.mk (0) (0) (⟨#[]⟩) ([]) ([])), Mb.mk (⟨#[97]⟩) (V.mk (0) (0) (⟨#[]⟩) ([]) ([]))]) (lbr rfl) (lbr rfl) (obw_of (by kernel_rfl)) W _ _ (fun b o h => h.1.2.1) h1).mono (fun _ _ ⟨v, h1, h2, r1, h3, h4⟩ => ⟨v, h1, h2, r1, _, h3, fresh_d hk hgk h4, rfl⟩))) ?_
  refine .op (φ := IsT (IsD (Fr W5) (V.d (objM ([Mb.mk (⟨#[97]⟩) (V.mk (0) (0) (⟨#[]⟩) ([]) ([])), Mb.mk (⟨#[97]⟩) (V.mk (0) (0) (⟨#[]⟩) ([]) ([]))])))) (Is (.int .i64 (objE ([Mb.mk (⟨#[97]⟩) (V.mk (0) (0) (⟨#[]⟩) ([]) ([])), Mb.mk (⟨#[97]⟩) (V.mk (0) (0) (⟨#[]⟩) ([]) ([]))]))))) (st_t (st_d sub_all) (st_is _)) (sp_move (hlc rfl)) ?_
  refine .da (X := Fr W5) (e := V.d (objM ([Mb.mk (⟨#[97]⟩) (V.mk (0) (0) (⟨#[]⟩) ([]) ([])), Mb.mk (⟨#[97]⟩) (V.mk (0) (0) (⟨#[]⟩) ([]) ([]))]))) (sp_ext2 (hlc rfl) rfl) ?_
  refine .i (v := (.int .i64 (objE ([Mb.mk (⟨#[97]⟩) (V.mk (0) (0) (⟨#[]⟩) ([]) ([])), Mb.mk (⟨#[97]⟩) (V.mk (0) (0) (⟨#[]⟩) ([]) ([]))])))) (sp_ext2' (hlc rfl) rfl) ?_
  refine .alloc z33 ?_
  refine .done ⟨by kernel_rfl, fun a8 g W8 y8 zz8 hk hg hV hR hP => ?_⟩
  obtain ⟨⟨b3_8, e3, hb3, own_b3_8⟩, e23, e22, -, -, -, -, -, -⟩ := hV
  have lo_b3_8 : w.heap.size ≤ b3_8 := Nat.le_trans kw.size (hg.lo _ _ hb3)
  have ne_b1_4_b3_8 : b1_4 ≠ b3_8 := Nat.ne_of_lt (Nat.lt_of_lt_of_le own_b1_4.lt (hg.lo _ _ hb3))
  have own_b3_8 : Own W8 b3_8 [(.int .u8 (0)), (.int .i64 (0)), (.string (⟨#[]⟩)), (.slice none 0 0), (.slice none 0 0)] 33 := own_b3_8
  replace e1 := (hR 1 rfl).trans e1
  replace e2 := (hR 2 rfl).trans e2
  replace D_cn15_4 := sf_more D_cn15_4 hk [b3_8] (in_cons (hg.lo _ _ hb3) in_nil)
  replace D_ci15_4 := sf_more D_ci15_4 hk [b3_8] (in_cons (hg.lo _ _ hb3) in_nil)
  obtain ⟨v22_8, ev⟩ : ∃ v, sl a8 22 = v := ⟨_, rfl⟩
  rw [ev] at e22
  have D_v22_8 : Rd W8 (SF w [b3_8, b1_4]) (V.d (objM ([Mb.mk (⟨#[97]⟩) (V.mk (0) (0) (⟨#[]⟩) ([]) ([])), Mb.mk (⟨#[97]⟩) (V.mk (0) (0) (⟨#[]⟩) ([]) ([]))]))) v22_8 := fr_end (M := [b1_4]) e22 kw [b3_8] (in_cons ⟨_, hb3⟩ in_nil) (in_cons own_b1_4.lt in_nil)
  replace e22 := ev; clear ev
  obtain ⟨cn22_8a, cn22_8c, ci22_8a, ci22_8c, ev, ht_v22_8, D_cn22_8, D_ci22_8⟩ := rdV_out D_v22_8
  subst ev; clear D_v22_8
  replace e23 := e23.q
  replace own_b1_4 := own_b1_4.ext hk
  replace kw := kw.x hk
  clear hR hk hg hP hb3
  refine tail_store (b := b3_8) (o := 0) (v := (.agg #[(.int .u8 ((objM ([Mb.mk (⟨#[97]⟩) (V.mk (0) (0) (⟨#[]⟩) ([]) ([])), Mb.mk (⟨#[97]⟩) (V.mk (0) (0) (⟨#[]⟩) ([]) ([]))])).k)), (.int .i64 ((objM ([Mb.mk (⟨#[97]⟩) (V.mk (0) (0) (⟨#[]⟩) ([]) ([])), Mb.mk (⟨#[97]⟩) (V.mk (0) (0) (⟨#[]⟩) ([]) ([]))])).n)), (.string ((objM ([Mb.mk (⟨#[97]⟩) (V.mk (0) (0) (⟨#[]⟩) ([]) ([])), Mb.mk (⟨#[97]⟩) (V.mk (0) (0) (⟨#[]⟩) ([]) ([]))])).t)), (.slice cn22_8a (((objM ([Mb.mk (⟨#[97]⟩) (V.mk (0) (0) (⟨#[]⟩) ([]) ([])), Mb.mk (⟨#[97]⟩) (V.mk (0) (0) (⟨#[]⟩) ([]) ([]))])).ns).length) cn22_8c), (.slice ci22_8a (((objM ([Mb.mk (⟨#[97]⟩) (V.mk (0) (0) (⟨#[]⟩) ([]) ([])), Mb.mk (⟨#[97]⟩) (V.mk (0) (0) (⟨#[]⟩) ([]) ([]))])).xs).length) ci22_8c)])) e3 e22 sz33 rfl own_b3_8 (lbr rfl) (all_cons rfl (all_cons rfl (all_cons rfl (all_cons rfl (all_cons rfl all_nil))))) (fun W9 hs own_b3_8 => ?_)
  have own_b3_8 : Own W9 b3_8 [(.int .u8 ((objM ([Mb.mk (⟨#[97]⟩) (V.mk (0) (0) (⟨#[]⟩) ([]) ([])), Mb.mk (⟨#[97]⟩) (V.mk (0) (0) (⟨#[]⟩) ([]) ([]))])).k)), (.int .i64 ((objM ([Mb.mk (⟨#[97]⟩) (V.mk (0) (0) (⟨#[]⟩) ([]) ([])), Mb.mk (⟨#[97]⟩) (V.mk (0) (0) (⟨#[]⟩) ([]) ([]))])).n)), (.string ((objM ([Mb.mk (⟨#[97]⟩) (V.mk (0) (0) (⟨#[]⟩) ([]) ([])), Mb.mk (⟨#[97]⟩) (V.mk (0) (0) (⟨#[]⟩) ([]) ([]))])).t)), (.slice cn22_8a (((objM ([Mb.mk (⟨#[97]⟩) (V.mk (0) (0) (⟨#[]⟩) ([]) ([])), Mb.mk (⟨#[97]⟩) (V.mk (0) (0) (⟨#[]⟩) ([]) ([]))])).ns).length) cn22_8c), (.slice ci22_8a (((objM ([Mb.mk (⟨#[97]⟩) (V.mk (0) (0) (⟨#[]⟩) ([]) ([])), Mb.mk (⟨#[97]⟩) (V.mk (0) (0) (⟨#[]⟩) ([]) ([]))])).xs).length) ci22_8c)] 33 := own_b3_8
  replace own_b1_4 := own_store own_b1_4 hs ne_b1_4_b3_8
  replace D_cn15_4 := sf_store D_cn15_4 hs (by simp)
  replace D_ci15_4 := sf_store D_ci15_4 hs (by simp)
  replace D_cn22_8 := sf_store D_cn22_8 hs (by simp)
  replace D_ci22_8 := sf_store D_ci22_8 hs (by simp)
  replace kw := keeps_store kw hs lo_b3_8
  clear hs
  refine tail_assign (v := (.int .i64 (objE ([Mb.mk (⟨#[97]⟩) (V.mk (0) (0) (⟨#[]⟩) ([]) ([])), Mb.mk (⟨#[97]⟩) (V.mk (0) (0) (⟨#[]⟩) ([]) ([]))])))) e23 (by rw [y8]; exact Nat.le_of_ble_eq_true rfl) (fun a10 y10 zz10 e4 hr => ?_)
  replace y10 := y10.trans y8; replace zz10 := zz10.trans zz8
  replace e1 := (hr 1 (by decide)).trans e1
  replace e2 := (hr 2 (by decide)).trans e2
  replace e3 := (hr 3 (by decide)).trans e3
  replace e22 := (hr 22 (by decide)).trans e22
  replace e23 := (hr 23 (by decide)).trans e23
  clear hr
  refine tail_nil (hK7 _ _ ?_)
  refine wp_seq_k fun K11 hK11 => ?_
  refine wp_seq_k fun K12 hK12 => ?_
  refine rg mixed y10 zz10 ?_
  refine .i (sp_move (hbs rfl e2)) ?_
  refine .i (sp_neq (hlc rfl) Has.cst) ?_
  refine .i (sp_move (hlc rfl)) ?_
  refine .e (t := 26) rfl (hlc rfl) (fun hg => sp_move (hbs rfl e4)) ?_
  refine .e (t := 26) rfl (hlc rfl) (fun hg => sp_neq ((hlc rfl).undE hg) Has.cst) ?_
  refine .i (sp_or (hlc rfl) ((hlc rfl).weak fun hq => hq)) ?_
  refine .i (sp_move (hlc rfl)) ?_
  refine .e (t := 30) (v := (.agg #[(.int .u8 ((objM ([Mb.mk (⟨#[98]⟩) (V.mk (3) (0) (⟨#[120]⟩) ([]) ([])), Mb.mk (⟨#[97]⟩) (V.mk (2) (1) (⟨#[]⟩) ([]) ([]))])).k)), (.int .i64 ((objM ([Mb.mk (⟨#[98]⟩) (V.mk (3) (0) (⟨#[120]⟩) ([]) ([])), Mb.mk (⟨#[97]⟩) (V.mk (2) (1) (⟨#[]⟩) ([]) ([]))])).n)), (.string ((objM ([Mb.mk (⟨#[98]⟩) (V.mk (3) (0) (⟨#[120]⟩) ([]) ([])), Mb.mk (⟨#[97]⟩) (V.mk (2) (1) (⟨#[]⟩) ([]) ([]))])).t)), (.slice cn15_4a (((objM ([Mb.mk (⟨#[98]⟩) (V.mk (3) (0) (⟨#[120]⟩) ([]) ([])), Mb.mk (⟨#[97]⟩) (V.mk (2) (1) (⟨#[]⟩) ([]) ([]))])).ns).length) cn15_4c), (.slice ci15_4a (((objM ([Mb.mk (⟨#[98]⟩) (V.mk (3) (0) (⟨#[120]⟩) ([]) ([])), Mb.mk (⟨#[97]⟩) (V.mk (2) (1) (⟨#[]⟩) ([]) ([]))])).xs).length) ci15_4c)])) rfl (hlc rfl) (fun hg => loA (hbs rfl e1) own_b1_4 trivial agg33 sz33 rfl rfl) ?_
  refine .opE (t := 30) (φ := IsD (SF w [b3_8, b1_4]) (strsD ([⟨#[97]⟩, ⟨#[98]⟩]))) rfl (hlc rfl) (st_d sub_all) (fun hg => sp_bsl (ds := [D.str (⟨#[97]⟩), D.str (⟨#[98]⟩)]) Try.underlying23 sz9 z9 (lbr rfl) (lbr rfl) ⟨rfl, (Has.cst.str (lbr rfl)), ⟨rfl, (Has.cst.str (lbr rfl)), trivial⟩⟩ rfl (by simp [width]) (fr_sf kw (in_cons own_b3_8.lt (in_cons own_b1_4.lt in_nil)))) ?_
  refine .e (t := 30) (v := (.agg #[(.int .u8 (2)), (.int .i64 (1)), (.string (⟨#[]⟩)), (.slice none 0 0), (.slice none 0 0)])) rfl (hlc rfl) (fun hg => sp_build (vs := [(0, (.int .u8 (2))), (1, (.int .i64 (1)))]) Try.underlying33 z33 (pl33 Try.underlying33) ⟨rfl, Has.cst, rfl, Has.cst, trivial⟩ rfl) ?_
  refine .e (t := 30) (v := (.agg #[(.int .u8 (3)), (.int .i64 (0)), (.string (⟨#[120]⟩)), (.slice none 0 0), (.slice none 0 0)])) rfl (hlc rfl) (fun hg => sp_build (vs := [(0, (.int .u8 (3))), (2, (.string (⟨#[120]⟩)))]) Try.underlying33 z33 (pl33 Try.underlying33) ⟨rfl, Has.cst, rfl, Has.cst, trivial⟩ rfl) ?_
  refine .opE (t := 30) (φ := IsD (SF w [b3_8, b1_4]) (valsD ([V.mk (2) (1) (⟨#[]⟩) ([]) ([]), V.mk (3) (0) (⟨#[120]⟩) ([]) ([])]))) rfl (hlc rfl) (st_d sub_all) (fun hg => sp_bsl (ds := [V.d (V.mk (2) (1) (⟨#[]⟩) ([]) ([])), V.d (V.mk (3) (0) (⟨#[120]⟩) ([]) ([]))]) Try.underlying31 sz33 z33 (lbr rfl) (lbr rfl) ⟨rfl, (((hlc rfl).undE hg).dat (rdV_mk (lbr rfl) (rd_nil _) (rd_nil _) : Rd W9 (SF w [b3_8, b1_4]) (V.d (V.mk (2) (1) (⟨#[]⟩) ([]) ([]))) _) sub_all), ⟨rfl, (((hlc rfl).undE hg).dat (rdV_mk (lbr rfl) (rd_nil _) (rd_nil _) : Rd W9 (SF w [b3_8, b1_4]) (V.d (V.mk (3) (0) (⟨#[120]⟩) ([]) ([]))) _) sub_all), trivial⟩⟩ rfl (by intro e he; simp at he; rcases he with rfl | rfl <;> exact width_V _) (fr_sf kw (in_cons own_b3_8.lt (in_cons own_b1_4.lt in_nil)))) ?_
  refine .opE (t := 30) (φ := IsD (SF w [b3_8, b1_4]) (V.d (V.mk (5) (0) (⟨#[]⟩) ([⟨#[97]⟩, ⟨#[98]⟩]) ([V.mk (2) (1) (⟨#[]⟩) ([]) ([]), V.mk (3) (0) (⟨#[120]⟩) ([]) ([])])))) rfl (hlc rfl) (st_d sub_all) (fun hg => sp_buildD (zd := [.int .u8 0, .int .i64 0, .str ⟨#[]⟩, strsD [], valsD []]) (es := [(0, D.int .u8 (5)), (3, strsD ([⟨#[97]⟩, ⟨#[98]⟩])), (4, valsD ([V.mk (2) (1) (⟨#[]⟩) ([]) ([]), V.mk (3) (0) (⟨#[120]⟩) ([]) ([])]))]) Try.underlying33 z33 (pl33 Try.underlying33) ⟨rfl, Has.cst.int, ⟨rfl, ((hlc rfl).undE hg), ⟨rfl, ((hlc rfl).undE hg), trivial⟩⟩⟩ zV rfl (by simp [fits, width, strsD, valsD]) (by rw [V.d_eq]; rfl)) ?_
  refine .e (t := 30) (v := (.bool (V.beq ((objM ([Mb.mk (⟨#[98]⟩) (V.mk (3) (0) (⟨#[120]⟩) ([]) ([])), Mb.mk (⟨#[97]⟩) (V.mk (2) (1) (⟨#[]⟩) ([]) ([]))]))) (V.mk (5) (0) (⟨#[]⟩) ([⟨#[97]⟩, ⟨#[98]⟩]) ([V.mk (2) (1) (⟨#[]⟩) ([]) ([]), V.mk (3) (0) (⟨#[120]⟩) ([]) ([])]))))) rfl (hlc rfl) (fun hg => sp_call2 (φ1 := IsD (SF w [b3_8, b1_4]) (V.d ((objM ([Mb.mk (⟨#[98]⟩) (V.mk (3) (0) (⟨#[120]⟩) ([]) ([])), Mb.mk (⟨#[97]⟩) (V.mk (2) (1) (⟨#[]⟩) ([]) ([]))]))))) (φ2 := IsD (SF w [b3_8, b1_4]) (V.d (V.mk (5) (0) (⟨#[]⟩) ([⟨#[97]⟩, ⟨#[98]⟩]) ([V.mk (2) (1) (⟨#[]⟩) ([]) ([]), V.mk (3) (0) (⟨#[120]⟩) ([]) ([])])))) ent34 (((hlc rfl).undE hg).dat (rdV_in (x := (objM ([Mb.mk (⟨#[98]⟩) (V.mk (3) (0) (⟨#[120]⟩) ([]) ([])), Mb.mk (⟨#[97]⟩) (V.mk (2) (1) (⟨#[]⟩) ([]) ([]))]))) ht_v15_4 D_cn15_4 D_ci15_4 : Rd W9 (SF w [b3_8, b1_4]) (V.d ((objM ([Mb.mk (⟨#[98]⟩) (V.mk (3) (0) (⟨#[120]⟩) ([]) ([])), Mb.mk (⟨#[97]⟩) (V.mk (2) (1) (⟨#[]⟩) ([]) ([]))])))) _) sub_all) ((hlc rfl).undE hg) (fun g u1 u2 W hk hgk h1 h2 => refSame_all _ ((objM ([Mb.mk (⟨#[98]⟩) (V.mk (3) (0) (⟨#[120]⟩) ([]) ([])), Mb.mk (⟨#[97]⟩) (V.mk (2) (1) (⟨#[]⟩) ([]) ([]))]))) (V.mk (5) (0) (⟨#[]⟩) ([⟨#[97]⟩, ⟨#[98]⟩]) ([V.mk (2) (1) (⟨#[]⟩) ([]) ([]), V.mk (3) (0) (⟨#[120]⟩) ([]) ([])])) (Nat.le_refl _) (by first | omega | exact Nat.le_of_ble_eq_true (by kernel_rfl)) W _ _ _ h1 h2)) ?_
  refine .e (t := 30) rfl (hlc rfl) (fun hg => sp_not ((hlc rfl).undE hg)) ?_
  refine .i (sp_or (hlc rfl) ((hlc rfl).weak fun hq => hq)) ?_
  refine .done ⟨by kernel_rfl, fun a13 g W13 y13 zz13 hk hg hV hR hP => ?_⟩
  obtain ⟨e39, -, -, -, -, -, -, -, -, -, -, -, -, -, -, -, -⟩ := hV
  replace e1 := (hR 1 rfl).trans e1
  replace D_cn15_4 := D_cn15_4.ext hk
  replace D_ci15_4 := D_ci15_4.ext hk
  replace e39 := e39.q
  replace own_b1_4 := own_b1_4.ext hk
  replace own_b3_8 := own_b3_8.ext hk
  replace kw := kw.x hk
  clear hR hk hg hP
  refine tail_nil (hK12 _ _ ?_)
  refine wp_cond_split e39 (fun hc => ?_) (fun hc => ?_)
  ·
   exfalso
   exact Bool.noConfusion (hc.symm.trans (by kernel_rfl : _ = false))
  ·
   refine wp_skip (hK11 _ _ ?_)
   refine wp_seq_k fun K14 hK14 => ?_
   refine rg mixed y13 zz13 ?_
   refine .i (v := (.agg #[(.int .u8 ((objM ([Mb.mk (⟨#[98]⟩) (V.mk (3) (0) (⟨#[120]⟩) ([]) ([])), Mb.mk (⟨#[97]⟩) (V.mk (2) (1) (⟨#[]⟩) ([]) ([]))])).k)), (.int .i64 ((objM ([Mb.mk (⟨#[98]⟩) (V.mk (3) (0) (⟨#[120]⟩) ([]) ([])), Mb.mk (⟨#[97]⟩) (V.mk (2) (1) (⟨#[]⟩) ([]) ([]))])).n)), (.string ((objM ([Mb.mk (⟨#[98]⟩) (V.mk (3) (0) (⟨#[120]⟩) ([]) ([])), Mb.mk (⟨#[97]⟩) (V.mk (2) (1) (⟨#[]⟩) ([]) ([]))])).t)), (.slice cn15_4a (((objM ([Mb.mk (⟨#[98]⟩) (V.mk (3) (0) (⟨#[120]⟩) ([]) ([])), Mb.mk (⟨#[97]⟩) (V.mk (2) (1) (⟨#[]⟩) ([]) ([]))])).ns).length) cn15_4c), (.slice ci15_4a (((objM ([Mb.mk (⟨#[98]⟩) (V.mk (3) (0) (⟨#[120]⟩) ([]) ([])), Mb.mk (⟨#[97]⟩) (V.mk (2) (1) (⟨#[]⟩) ([]) ([]))])).xs).length) ci15_4c)])) (loA (hbs rfl e1) own_b1_4 trivial agg33 sz33 rfl rfl) ?_
   refine .op (φ := IsPk W13 74 ((objM ([Mb.mk (⟨#[98]⟩) (V.mk (3) (0) (⟨#[120]⟩) ([]) ([])), Mb.mk (⟨#[97]⟩) (V.mk (2) (1) (⟨#[]⟩) ([]) ([]))]))) ([]) (0)) st_pk (sp_call1 (φ1 := IsD (SF w [b3_8, b1_4]) (V.d ((objM ([Mb.mk (⟨#[98]⟩) (V.mk (3) (0) (⟨#[120]⟩) ([]) ([])), Mb.mk (⟨#[97]⟩) (V.mk (2) (1) (⟨#[]⟩) ([]) ([]))]))))) ent21 ((hlc rfl).dat (rdV_in (x := (objM ([Mb.mk (⟨#[98]⟩) (V.mk (3) (0) (⟨#[120]⟩) ([]) ([])), Mb.mk (⟨#[97]⟩) (V.mk (2) (1) (⟨#[]⟩) ([]) ([]))]))) ht_v15_4 D_cn15_4 D_ci15_4 : Rd W13 (SF w [b3_8, b1_4]) (V.d ((objM ([Mb.mk (⟨#[98]⟩) (V.mk (3) (0) (⟨#[120]⟩) ([]) ([])), Mb.mk (⟨#[97]⟩) (V.mk (2) (1) (⟨#[]⟩) ([]) ([]))])))) _) sub_all) (fun g u1 W hk hgk h1 => (Of_ok ((objM ([Mb.mk (⟨#[98]⟩) (V.mk (3) (0) (⟨#[120]⟩) ([]) ([])), Mb.mk (⟨#[97]⟩) (V.mk (2) (1) (⟨#[]⟩) ([]) ([]))]))) (Nat.le_of_ble_eq_true (by kernel_rfl)) (by kernel_rfl) W _ _ (fun b o h => h.1.2.1) h1).mono (fun _ _ ⟨v, h1, h2, h3⟩ => ⟨v, h1, h2, pk_up hk h3⟩))) ?_
   refine .done ⟨by kernel_rfl, fun a15 g W15 y15 zz15 hk hg hV hR hP => ?_⟩
   obtain ⟨e41, -, -⟩ := hV
   replace e1 := (hR 1 rfl).trans e1
   obtain ⟨bo41_15, bm41_15, cn41_15v, ci41_15v, e41, lr_bo41_15, lr_bm41_15, ne_bo41_15_bm41_15, own_bo41_15, own_bm41_15, D_cn41_15, D_ci41_15, tb41_15⟩ := e41
   obtain ⟨cn41_15a, cn41_15c, ev, D2⟩ := rdS_out D_cn41_15; subst ev; replace D_cn41_15 := D2; clear D2
   obtain ⟨ci41_15a, ci41_15c, ev, D2⟩ := rdVs_out D_ci41_15; subst ev; replace D_ci41_15 := D2; clear D2
   have e41 : sl a15 41 = (.pointer (some ⟨bo41_15, 0, none⟩)) := e41
   have lo_bo41_15 : w.heap.size ≤ bo41_15 := Nat.le_trans kw.size lr_bo41_15
   have ne_b1_4_bo41_15 : b1_4 ≠ bo41_15 := Nat.ne_of_lt (Nat.lt_of_lt_of_le own_b1_4.lt lr_bo41_15)
   have ne_b3_8_bo41_15 : b3_8 ≠ bo41_15 := Nat.ne_of_lt (Nat.lt_of_lt_of_le own_b3_8.lt lr_bo41_15)
   have lo_bm41_15 : w.heap.size ≤ bm41_15 := Nat.le_trans kw.size lr_bm41_15
   have ne_b1_4_bm41_15 : b1_4 ≠ bm41_15 := Nat.ne_of_lt (Nat.lt_of_lt_of_le own_b1_4.lt lr_bm41_15)
   have ne_b3_8_bm41_15 : b3_8 ≠ bm41_15 := Nat.ne_of_lt (Nat.lt_of_lt_of_le own_b3_8.lt lr_bm41_15)
   replace D_cn15_4 : Rd W15 (SF w [bo41_15, bm41_15, b3_8, b1_4]) (strsD ((objM ([Mb.mk (⟨#[98]⟩) (V.mk (3) (0) (⟨#[120]⟩) ([]) ([])), Mb.mk (⟨#[97]⟩) (V.mk (2) (1) (⟨#[]⟩) ([]) ([]))])).ns)) (.slice cn15_4a (((objM ([Mb.mk (⟨#[98]⟩) (V.mk (3) (0) (⟨#[120]⟩) ([]) ([])), Mb.mk (⟨#[97]⟩) (V.mk (2) (1) (⟨#[]⟩) ([]) ([]))])).ns).length) cn15_4c) := sf_more D_cn15_4 hk [bo41_15, bm41_15] (in_cons lr_bo41_15 (in_cons lr_bm41_15 in_nil))
   replace D_ci15_4 : Rd W15 (SF w [bo41_15, bm41_15, b3_8, b1_4]) (valsD ((objM ([Mb.mk (⟨#[98]⟩) (V.mk (3) (0) (⟨#[120]⟩) ([]) ([])), Mb.mk (⟨#[97]⟩) (V.mk (2) (1) (⟨#[]⟩) ([]) ([]))])).xs)) (.slice ci15_4a (((objM ([Mb.mk (⟨#[98]⟩) (V.mk (3) (0) (⟨#[120]⟩) ([]) ([])), Mb.mk (⟨#[97]⟩) (V.mk (2) (1) (⟨#[]⟩) ([]) ([]))])).xs).length) ci15_4c) := sf_more D_ci15_4 hk [bo41_15, bm41_15] (in_cons lr_bo41_15 (in_cons lr_bm41_15 in_nil))
   replace D_cn41_15 : Rd W15 (SF w [bo41_15, bm41_15, b3_8, b1_4]) (strsD ((objM ([Mb.mk (⟨#[98]⟩) (V.mk (3) (0) (⟨#[120]⟩) ([]) ([])), Mb.mk (⟨#[97]⟩) (V.mk (2) (1) (⟨#[]⟩) ([]) ([]))])).ns)) (.slice cn41_15a (((objM ([Mb.mk (⟨#[98]⟩) (V.mk (3) (0) (⟨#[120]⟩) ([]) ([])), Mb.mk (⟨#[97]⟩) (V.mk (2) (1) (⟨#[]⟩) ([]) ([]))])).ns).length) cn41_15c) := pk_data kw (in_cons own_b3_8.lt (in_cons own_b1_4.lt in_nil)) D_cn41_15
   replace D_ci41_15 : Rd W15 (SF w [bo41_15, bm41_15, b3_8, b1_4]) (valsD ((objM ([Mb.mk (⟨#[98]⟩) (V.mk (3) (0) (⟨#[120]⟩) ([]) ([])), Mb.mk (⟨#[97]⟩) (V.mk (2) (1) (⟨#[]⟩) ([]) ([]))])).xs)) (.slice ci41_15a (((objM ([Mb.mk (⟨#[98]⟩) (V.mk (3) (0) (⟨#[120]⟩) ([]) ([])), Mb.mk (⟨#[97]⟩) (V.mk (2) (1) (⟨#[]⟩) ([]) ([]))])).xs).length) ci41_15c) := pk_data kw (in_cons own_b3_8.lt (in_cons own_b1_4.lt in_nil)) D_ci41_15
   have own_bo41_15 : Own W15 bo41_15 [(.int .u8 ((objM ([Mb.mk (⟨#[98]⟩) (V.mk (3) (0) (⟨#[120]⟩) ([]) ([])), Mb.mk (⟨#[97]⟩) (V.mk (2) (1) (⟨#[]⟩) ([]) ([]))])).k)), (.int .i64 ((objM ([Mb.mk (⟨#[98]⟩) (V.mk (3) (0) (⟨#[120]⟩) ([]) ([])), Mb.mk (⟨#[97]⟩) (V.mk (2) (1) (⟨#[]⟩) ([]) ([]))])).n)), (.string ((objM ([Mb.mk (⟨#[98]⟩) (V.mk (3) (0) (⟨#[120]⟩) ([]) ([])), Mb.mk (⟨#[97]⟩) (V.mk (2) (1) (⟨#[]⟩) ([]) ([]))])).t)), (.slice cn41_15a (((objM ([Mb.mk (⟨#[98]⟩) (V.mk (3) (0) (⟨#[120]⟩) ([]) ([])), Mb.mk (⟨#[97]⟩) (V.mk (2) (1) (⟨#[]⟩) ([]) ([]))])).ns).length) cn41_15c), (.slice ci41_15a (((objM ([Mb.mk (⟨#[98]⟩) (V.mk (3) (0) (⟨#[120]⟩) ([]) ([])), Mb.mk (⟨#[97]⟩) (V.mk (2) (1) (⟨#[]⟩) ([]) ([]))])).xs).length) ci41_15c), (.map (some bm41_15)), (.int .i64 (0))] 74 := own_bo41_15
   have own_bm41_15 : OwnM W15 bm41_15 ([]) := own_bm41_15
   replace own_b1_4 := own_b1_4.ext hk
   replace own_b3_8 := own_b3_8.ext hk
   replace kw := kw.x hk
   clear hR hk hg hP lr_bo41_15 lr_bm41_15
   refine tail_assign (v := (.pointer (some ⟨bo41_15, 0, none⟩))) e41 (by rw [y15]; exact Nat.le_of_ble_eq_true rfl) (fun a16 y16 zz16 e5 hr => ?_)
   replace y16 := y16.trans y15; replace zz16 := zz16.trans zz15
   replace e1 := (hr 1 (by decide)).trans e1
   replace e41 := (hr 41 (by decide)).trans e41
   clear hr
   refine tail_nil (hK14 _ _ ?_)
   refine wp_seq_k fun K17 hK17 => ?_
   refine wp_seq_k fun K18 hK18 => ?_
   refine wp_reg (fun k => k ∉ [bo41_15, bm41_15]) (Ψ := fun W => Own W bo41_15 [(.int .u8 ((objM ([Mb.mk (⟨#[98]⟩) (V.mk (3) (0) (⟨#[120]⟩) ([]) ([])), Mb.mk (⟨#[97]⟩) (V.mk (2) (1) (⟨#[]⟩) ([]) ([]))])).k)), (.int .i64 ((objM ([Mb.mk (⟨#[98]⟩) (V.mk (3) (0) (⟨#[120]⟩) ([]) ([])), Mb.mk (⟨#[97]⟩) (V.mk (2) (1) (⟨#[]⟩) ([]) ([]))])).n)), (.string ((objM ([Mb.mk (⟨#[98]⟩) (V.mk (3) (0) (⟨#[120]⟩) ([]) ([])), Mb.mk (⟨#[97]⟩) (V.mk (2) (1) (⟨#[]⟩) ([]) ([]))])).t)), (.slice cn41_15a (((objM ([Mb.mk (⟨#[98]⟩) (V.mk (3) (0) (⟨#[120]⟩) ([]) ([])), Mb.mk (⟨#[97]⟩) (V.mk (2) (1) (⟨#[]⟩) ([]) ([]))])).ns).length) cn41_15c), (.slice ci41_15a (((objM ([Mb.mk (⟨#[98]⟩) (V.mk (3) (0) (⟨#[120]⟩) ([]) ([])), Mb.mk (⟨#[97]⟩) (V.mk (2) (1) (⟨#[]⟩) ([]) ([]))])).xs).length) ci41_15c), (.map (some bm41_15)), (.int .i64 (0))] 74 ∧ OwnM W bm41_15 ([])) mixed y16 zz16 (stE_and stE_own stE_ownM) ⟨own_bo41_15, own_bm41_15⟩ ?_
   refine .i (sp_move (hbs rfl e5)) ?_
   refine .callL4 (φ1 := Is (.pointer (some ⟨bo41_15, 0, none⟩))) (φ2 := Is (.string (⟨#[97]⟩))) (φ3 := Is (.int .i64 (0))) (φ4 := Is (.int .i64 (9))) (φ := Is (.int .i64 (if tkB (objM ([Mb.mk (⟨#[98]⟩) (V.mk (3) (0) (⟨#[120]⟩) ([]) ([])), Mb.mk (⟨#[97]⟩) (V.mk (2) (1) (⟨#[]⟩) ([]) ([]))])) 0 ⟨#[97]⟩ (numE 0 9) then numV 0 9 (getV (objM ([Mb.mk (⟨#[98]⟩) (V.mk (3) (0) (⟨#[120]⟩) ([]) ([])), Mb.mk (⟨#[97]⟩) (V.mk (2) (1) (⟨#[]⟩) ([]) ([]))])) ⟨#[97]⟩) else 0))) (Ψ' := fun W => Own W bo41_15 [(.int .u8 ((objM ([Mb.mk (⟨#[98]⟩) (V.mk (3) (0) (⟨#[120]⟩) ([]) ([])), Mb.mk (⟨#[97]⟩) (V.mk (2) (1) (⟨#[]⟩) ([]) ([]))])).k)), (.int .i64 ((objM ([Mb.mk (⟨#[98]⟩) (V.mk (3) (0) (⟨#[120]⟩) ([]) ([])), Mb.mk (⟨#[97]⟩) (V.mk (2) (1) (⟨#[]⟩) ([]) ([]))])).n)), (.string ((objM ([Mb.mk (⟨#[98]⟩) (V.mk (3) (0) (⟨#[120]⟩) ([]) ([])), Mb.mk (⟨#[97]⟩) (V.mk (2) (1) (⟨#[]⟩) ([]) ([]))])).t)), (.slice cn41_15a (((objM ([Mb.mk (⟨#[98]⟩) (V.mk (3) (0) (⟨#[120]⟩) ([]) ([])), Mb.mk (⟨#[97]⟩) (V.mk (2) (1) (⟨#[]⟩) ([]) ([]))])).ns).length) cn41_15c), (.slice ci41_15a (((objM ([Mb.mk (⟨#[98]⟩) (V.mk (3) (0) (⟨#[120]⟩) ([]) ([])), Mb.mk (⟨#[97]⟩) (V.mk (2) (1) (⟨#[]⟩) ([]) ([]))])).xs).length) ci41_15c), (.map (some bm41_15)), (.int .i64 (tkE (objM ([Mb.mk (⟨#[98]⟩) (V.mk (3) (0) (⟨#[120]⟩) ([]) ([])), Mb.mk (⟨#[97]⟩) (V.mk (2) (1) (⟨#[]⟩) ([]) ([]))])) 0 ⟨#[97]⟩ (numE 0 9)))] 74 ∧ OwnM W bm41_15 (tkA (objM ([Mb.mk (⟨#[98]⟩) (V.mk (3) (0) (⟨#[120]⟩) ([]) ([])), Mb.mk (⟨#[97]⟩) (V.mk (2) (1) (⟨#[]⟩) ([]) ([]))])) ([]) 0 ⟨#[97]⟩ (numE 0 9))) ent44 (hlc rfl) Has.cst Has.cst Has.cst (st_is _) (stE_and stE_own stE_ownM) (fun g u1 u2 u3 u4 W hk hg h1 h2 h3 h4 hP => by have h1 : u1 = _ := h1; subst u1; have h2 : u2 = _ := h2; subst u2; have h3 : u3 = _ := h3; subst u3; have h4 : u4 = _ := h4; subst u4; exact (Num_ok ((objM ([Mb.mk (⟨#[98]⟩) (V.mk (3) (0) (⟨#[120]⟩) ([]) ([])), Mb.mk (⟨#[97]⟩) (V.mk (2) (1) (⟨#[]⟩) ([]) ([]))]))) ([]) (0) (AB.nil.mono (by omega)) (Nat.le_of_ble_eq_true (by kernel_rfl)) tb41_15 ⟨#[97]⟩ 0 9 W _ _ _ _ _ (fun b o h => h.2.1) (sf_notin (by simp)) ne_bo41_15_bm41_15 (sf_keepL D_cn41_15 hk (by simp)) (sf_keepL D_ci41_15 hk (by simp)) hP.1 hP.2)) ?_
   refine .done ⟨by kernel_rfl, fun a19 g W19 y19 zz19 hk hg hV hR hP => ?_⟩
   obtain ⟨e43, -, -⟩ := hV
   replace e1 := (hR 1 rfl).trans e1
   replace e5 := (hR 5 rfl).trans e5
   replace e43 := e43.q
   replace D_cn15_4 := sf_keepL D_cn15_4 hk (by simp)
   replace D_ci15_4 := sf_keepL D_ci15_4 hk (by simp)
   replace D_cn41_15 := sf_keepL D_cn41_15 hk (by simp)
   replace D_ci41_15 := sf_keepL D_ci41_15 hk (by simp)
   replace own_b1_4 := own_keepL own_b1_4 hk (by simp [ne_b1_4_bo41_15, ne_b1_4_bm41_15])
   replace own_b3_8 := own_keepL own_b3_8 hk (by simp [ne_b3_8_bo41_15, ne_b3_8_bm41_15])
   obtain ⟨own_bo41_15, own_bm41_15⟩ := hP
   replace own_bo41_15 : Own W19 bo41_15 [(.int .u8 ((objM ([Mb.mk (⟨#[98]⟩) (V.mk (3) (0) (⟨#[120]⟩) ([]) ([])), Mb.mk (⟨#[97]⟩) (V.mk (2) (1) (⟨#[]⟩) ([]) ([]))])).k)), (.int .i64 ((objM ([Mb.mk (⟨#[98]⟩) (V.mk (3) (0) (⟨#[120]⟩) ([]) ([])), Mb.mk (⟨#[97]⟩) (V.mk (2) (1) (⟨#[]⟩) ([]) ([]))])).n)), (.string ((objM ([Mb.mk (⟨#[98]⟩) (V.mk (3) (0) (⟨#[120]⟩) ([]) ([])), Mb.mk (⟨#[97]⟩) (V.mk (2) (1) (⟨#[]⟩) ([]) ([]))])).t)), (.slice cn41_15a (((objM ([Mb.mk (⟨#[98]⟩) (V.mk (3) (0) (⟨#[120]⟩) ([]) ([])), Mb.mk (⟨#[97]⟩) (V.mk (2) (1) (⟨#[]⟩) ([]) ([]))])).ns).length) cn41_15c), (.slice ci41_15a (((objM ([Mb.mk (⟨#[98]⟩) (V.mk (3) (0) (⟨#[120]⟩) ([]) ([])), Mb.mk (⟨#[97]⟩) (V.mk (2) (1) (⟨#[]⟩) ([]) ([]))])).xs).length) ci41_15c), (.map (some bm41_15)), (.int .i64 (tkE (objM ([Mb.mk (⟨#[98]⟩) (V.mk (3) (0) (⟨#[120]⟩) ([]) ([])), Mb.mk (⟨#[97]⟩) (V.mk (2) (1) (⟨#[]⟩) ([]) ([]))])) 0 ⟨#[97]⟩ (numE 0 9)))] 74 := own_bo41_15
   replace own_bm41_15 : OwnM W19 bm41_15 (tkA (objM ([Mb.mk (⟨#[98]⟩) (V.mk (3) (0) (⟨#[120]⟩) ([]) ([])), Mb.mk (⟨#[97]⟩) (V.mk (2) (1) (⟨#[]⟩) ([]) ([]))])) ([]) 0 ⟨#[97]⟩ (numE 0 9)) := own_bm41_15
   replace kw := keeps_L kw hk (in_cons (.inl lo_bo41_15) (in_cons (.inl lo_bm41_15) in_nil))
   clear hR hk hg
   refine tail_reg 2 All y19 zz19 st_tr trivial rfl ?_
   refine .i (sp_neq (hbs rfl e43) Has.cst) ?_
   refine .i (sp_move (hlc rfl)) ?_
   refine .done ⟨by kernel_rfl, fun a20 g W20 y20 zz20 hk hg hV hR hP => ?_⟩
   refine tail_nil ?_
   show runTail _ _ _ _ _ _
   obtain ⟨e45, -, -⟩ := hV
   replace e1 := (hR 1 rfl).trans e1
   replace e5 := (hR 5 rfl).trans e5
   replace D_cn15_4 := D_cn15_4.ext hk
   replace D_ci15_4 := D_ci15_4.ext hk
   replace D_cn41_15 := D_cn41_15.ext hk
   replace D_ci41_15 := D_ci41_15.ext hk
   replace e45 := e45.q
   replace own_b1_4 := own_b1_4.ext hk
   replace own_b3_8 := own_b3_8.ext hk
   replace own_bo41_15 := own_bo41_15.ext hk
   replace own_bm41_15 := own_bm41_15.ext hk
   replace kw := kw.x hk
   clear hR hk hg hP
   refine tail_ung 3 45 false rfl 3 rfl (e45.trans (congrArg Value.bool (by kernel_rfl))) ?_
   refine tail_reg 5 All y20 zz20 st_tr trivial rfl ?_
   refine .i (sp_move (hbs rfl e5)) ?_
   refine .i (v := (.int .i64 (doneE (objM ([Mb.mk (⟨#[98]⟩) (V.mk (3) (0) (⟨#[120]⟩) ([]) ([])), Mb.mk (⟨#[97]⟩) (V.mk (2) (1) (⟨#[]⟩) ([]) ([]))])) (tkA (objM ([Mb.mk (⟨#[98]⟩) (V.mk (3) (0) (⟨#[120]⟩) ([]) ([])), Mb.mk (⟨#[97]⟩) (V.mk (2) (1) (⟨#[]⟩) ([]) ([]))])) ([]) 0 ⟨#[97]⟩ (numE 0 9)) (tkE (objM ([Mb.mk (⟨#[98]⟩) (V.mk (3) (0) (⟨#[120]⟩) ([]) ([])), Mb.mk (⟨#[97]⟩) (V.mk (2) (1) (⟨#[]⟩) ([]) ([]))])) 0 ⟨#[97]⟩ (numE 0 9))))) (sp_call1 (φ1 := Is (.pointer (some ⟨bo41_15, 0, none⟩))) ent32 (hlc rfl) (fun g u1 W hk hgk h1 => by have h1 : u1 = _ := h1; subst u1; exact Done_ok ((objM ([Mb.mk (⟨#[98]⟩) (V.mk (3) (0) (⟨#[120]⟩) ([]) ([])), Mb.mk (⟨#[97]⟩) (V.mk (2) (1) (⟨#[]⟩) ([]) ([]))]))) (tkA (objM ([Mb.mk (⟨#[98]⟩) (V.mk (3) (0) (⟨#[120]⟩) ([]) ([])), Mb.mk (⟨#[97]⟩) (V.mk (2) (1) (⟨#[]⟩) ([]) ([]))])) ([]) 0 ⟨#[97]⟩ (numE 0 9)) (tkE (objM ([Mb.mk (⟨#[98]⟩) (V.mk (3) (0) (⟨#[120]⟩) ([]) ([])), Mb.mk (⟨#[97]⟩) (V.mk (2) (1) (⟨#[]⟩) ([]) ([]))])) 0 ⟨#[97]⟩ (numE 0 9)) W _ _ _ _ _ (D_cn41_15.ext hk) (own_bo41_15.ext hk) (own_bm41_15.ext hk))) ?_
   refine .i (sp_neq (hlc rfl) Has.cst) ?_
   refine .i (sp_or (hbs rfl e45) ((hlc rfl).toU)) ?_
   refine .i (sp_move (hlc rfl)) ?_
   refine .done ⟨by kernel_rfl, fun a21 g W21 y21 zz21 hk hg hV hR hP => ?_⟩
   refine tail_nil ?_
   show runTail _ _ _ _ _ _
   obtain ⟨e50, -, -, -, -, -⟩ := hV
   replace e1 := (hR 1 rfl).trans e1
   replace e5 := (hR 5 rfl).trans e5
   replace D_cn15_4 := D_cn15_4.ext hk
   replace D_ci15_4 := D_ci15_4.ext hk
   replace D_cn41_15 := D_cn41_15.ext hk
   replace D_ci41_15 := D_ci41_15.ext hk
   replace e50 := e50.q
   replace own_b1_4 := own_b1_4.ext hk
   replace own_b3_8 := own_b3_8.ext hk
   replace own_bo41_15 := own_bo41_15.ext hk
   replace own_bm41_15 := own_bm41_15.ext hk
   replace kw := kw.x hk
   clear hR hk hg hP
   refine tail_ung 8 50 false rfl 3 rfl (e50.trans (congrArg Value.bool (by kernel_rfl))) ?_
   refine tail_reg 2 (fun k => k ∉ [bo41_15, bm41_15]) (Ψ := fun W => Own W bo41_15 [(.int .u8 ((objM ([Mb.mk (⟨#[98]⟩) (V.mk (3) (0) (⟨#[120]⟩) ([]) ([])), Mb.mk (⟨#[97]⟩) (V.mk (2) (1) (⟨#[]⟩) ([]) ([]))])).k)), (.int .i64 ((objM ([Mb.mk (⟨#[98]⟩) (V.mk (3) (0) (⟨#[120]⟩) ([]) ([])), Mb.mk (⟨#[97]⟩) (V.mk (2) (1) (⟨#[]⟩) ([]) ([]))])).n)), (.string ((objM ([Mb.mk (⟨#[98]⟩) (V.mk (3) (0) (⟨#[120]⟩) ([]) ([])), Mb.mk (⟨#[97]⟩) (V.mk (2) (1) (⟨#[]⟩) ([]) ([]))])).t)), (.slice cn41_15a (((objM ([Mb.mk (⟨#[98]⟩) (V.mk (3) (0) (⟨#[120]⟩) ([]) ([])), Mb.mk (⟨#[97]⟩) (V.mk (2) (1) (⟨#[]⟩) ([]) ([]))])).ns).length) cn41_15c), (.slice ci41_15a (((objM ([Mb.mk (⟨#[98]⟩) (V.mk (3) (0) (⟨#[120]⟩) ([]) ([])), Mb.mk (⟨#[97]⟩) (V.mk (2) (1) (⟨#[]⟩) ([]) ([]))])).xs).length) ci41_15c), (.map (some bm41_15)), (.int .i64 (tkE (objM ([Mb.mk (⟨#[98]⟩) (V.mk (3) (0) (⟨#[120]⟩) ([]) ([])), Mb.mk (⟨#[97]⟩) (V.mk (2) (1) (⟨#[]⟩) ([]) ([]))])) 0 ⟨#[97]⟩ (numE 0 9)))] 74 ∧ OwnM W bm41_15 (tkA (objM ([Mb.mk (⟨#[98]⟩) (V.mk (3) (0) (⟨#[120]⟩) ([]) ([])), Mb.mk (⟨#[97]⟩) (V.mk (2) (1) (⟨#[]⟩) ([]) ([]))])) ([]) 0 ⟨#[97]⟩ (numE 0 9))) y21 zz21 (stE_and stE_own stE_ownM) ⟨own_bo41_15, own_bm41_15⟩ rfl ?_
   refine .i (sp_move (hbs rfl e5)) ?_
   refine .callL2 (φ1 := Is (.pointer (some ⟨bo41_15, 0, none⟩))) (φ2 := Is (.string (⟨#[98]⟩))) (φ := Is (.string (if tkB (objM ([Mb.mk (⟨#[98]⟩) (V.mk (3) (0) (⟨#[120]⟩) ([]) ([])), Mb.mk (⟨#[97]⟩) (V.mk (2) (1) (⟨#[]⟩) ([]) ([]))])) (tkE (objM ([Mb.mk (⟨#[98]⟩) (V.mk (3) (0) (⟨#[120]⟩) ([]) ([])), Mb.mk (⟨#[97]⟩) (V.mk (2) (1) (⟨#[]⟩) ([]) ([]))])) 0 ⟨#[97]⟩ (numE 0 9)) ⟨#[98]⟩ textE then textV (getV (objM ([Mb.mk (⟨#[98]⟩) (V.mk (3) (0) (⟨#[120]⟩) ([]) ([])), Mb.mk (⟨#[97]⟩) (V.mk (2) (1) (⟨#[]⟩) ([]) ([]))])) ⟨#[98]⟩) else ⟨#[]⟩))) (Ψ' := fun W => Own W bo41_15 [(.int .u8 ((objM ([Mb.mk (⟨#[98]⟩) (V.mk (3) (0) (⟨#[120]⟩) ([]) ([])), Mb.mk (⟨#[97]⟩) (V.mk (2) (1) (⟨#[]⟩) ([]) ([]))])).k)), (.int .i64 ((objM ([Mb.mk (⟨#[98]⟩) (V.mk (3) (0) (⟨#[120]⟩) ([]) ([])), Mb.mk (⟨#[97]⟩) (V.mk (2) (1) (⟨#[]⟩) ([]) ([]))])).n)), (.string ((objM ([Mb.mk (⟨#[98]⟩) (V.mk (3) (0) (⟨#[120]⟩) ([]) ([])), Mb.mk (⟨#[97]⟩) (V.mk (2) (1) (⟨#[]⟩) ([]) ([]))])).t)), (.slice cn41_15a (((objM ([Mb.mk (⟨#[98]⟩) (V.mk (3) (0) (⟨#[120]⟩) ([]) ([])), Mb.mk (⟨#[97]⟩) (V.mk (2) (1) (⟨#[]⟩) ([]) ([]))])).ns).length) cn41_15c), (.slice ci41_15a (((objM ([Mb.mk (⟨#[98]⟩) (V.mk (3) (0) (⟨#[120]⟩) ([]) ([])), Mb.mk (⟨#[97]⟩) (V.mk (2) (1) (⟨#[]⟩) ([]) ([]))])).xs).length) ci41_15c), (.map (some bm41_15)), (.int .i64 (tkE (objM ([Mb.mk (⟨#[98]⟩) (V.mk (3) (0) (⟨#[120]⟩) ([]) ([])), Mb.mk (⟨#[97]⟩) (V.mk (2) (1) (⟨#[]⟩) ([]) ([]))])) (tkE (objM ([Mb.mk (⟨#[98]⟩) (V.mk (3) (0) (⟨#[120]⟩) ([]) ([])), Mb.mk (⟨#[97]⟩) (V.mk (2) (1) (⟨#[]⟩) ([]) ([]))])) 0 ⟨#[97]⟩ (numE 0 9)) ⟨#[98]⟩ textE))] 74 ∧ OwnM W bm41_15 (tkA (objM ([Mb.mk (⟨#[98]⟩) (V.mk (3) (0) (⟨#[120]⟩) ([]) ([])), Mb.mk (⟨#[97]⟩) (V.mk (2) (1) (⟨#[]⟩) ([]) ([]))])) (tkA (objM ([Mb.mk (⟨#[98]⟩) (V.mk (3) (0) (⟨#[120]⟩) ([]) ([])), Mb.mk (⟨#[97]⟩) (V.mk (2) (1) (⟨#[]⟩) ([]) ([]))])) ([]) 0 ⟨#[97]⟩ (numE 0 9)) (tkE (objM ([Mb.mk (⟨#[98]⟩) (V.mk (3) (0) (⟨#[120]⟩) ([]) ([])), Mb.mk (⟨#[97]⟩) (V.mk (2) (1) (⟨#[]⟩) ([]) ([]))])) 0 ⟨#[97]⟩ (numE 0 9)) ⟨#[98]⟩ textE)) ent43 (hlc rfl) Has.cst (st_is _) (stE_and stE_own stE_ownM) (fun g u1 u2 W hk hg h1 h2 hP => by have h1 : u1 = _ := h1; subst u1; have h2 : u2 = _ := h2; subst u2; exact (Text_ok ((objM ([Mb.mk (⟨#[98]⟩) (V.mk (3) (0) (⟨#[120]⟩) ([]) ([])), Mb.mk (⟨#[97]⟩) (V.mk (2) (1) (⟨#[]⟩) ([]) ([]))]))) (tkA (objM ([Mb.mk (⟨#[98]⟩) (V.mk (3) (0) (⟨#[120]⟩) ([]) ([])), Mb.mk (⟨#[97]⟩) (V.mk (2) (1) (⟨#[]⟩) ([]) ([]))])) ([]) 0 ⟨#[97]⟩ (numE 0 9)) (tkE (objM ([Mb.mk (⟨#[98]⟩) (V.mk (3) (0) (⟨#[120]⟩) ([]) ([])), Mb.mk (⟨#[97]⟩) (V.mk (2) (1) (⟨#[]⟩) ([]) ([]))])) 0 ⟨#[97]⟩ (numE 0 9)) (AB.nil.tk.mono (by omega)) (Nat.le_of_ble_eq_true (by kernel_rfl)) tb41_15 ⟨#[98]⟩ W _ _ _ _ _ (fun b o h => h.2.1) (sf_notin (by simp)) ne_bo41_15_bm41_15 (sf_keepL D_cn41_15 hk (by simp)) (sf_keepL D_ci41_15 hk (by simp)) hP.1 hP.2)) ?_
   refine .done ⟨by kernel_rfl, fun a22 g W22 y22 zz22 hk hg hV hR hP => ?_⟩
   refine tail_nil ?_
   show runTail _ _ _ _ _ _
   obtain ⟨e52, -, -⟩ := hV
   replace e1 := (hR 1 rfl).trans e1
   replace e5 := (hR 5 rfl).trans e5
   replace e50 := (hR 50 rfl).trans e50
   replace e52 := e52.q
   replace D_cn15_4 := sf_keepL D_cn15_4 hk (by simp)
   replace D_ci15_4 := sf_keepL D_ci15_4 hk (by simp)
   replace D_cn41_15 := sf_keepL D_cn41_15 hk (by simp)
   replace D_ci41_15 := sf_keepL D_ci41_15 hk (by simp)
   replace own_b1_4 := own_keepL own_b1_4 hk (by simp [ne_b1_4_bo41_15, ne_b1_4_bm41_15])
   replace own_b3_8 := own_keepL own_b3_8 hk (by simp [ne_b3_8_bo41_15, ne_b3_8_bm41_15])
   obtain ⟨own_bo41_15, own_bm41_15⟩ := hP
   replace own_bo41_15 : Own W22 bo41_15 [(.int .u8 ((objM ([Mb.mk (⟨#[98]⟩) (V.mk (3) (0) (⟨#[120]⟩) ([]) ([])), Mb.mk (⟨#[97]⟩) (V.mk (2) (1) (⟨#[]⟩) ([]) ([]))])).k)), (.int .i64 ((objM ([Mb.mk (⟨#[98]⟩) (V.mk (3) (0) (⟨#[120]⟩) ([]) ([])), Mb.mk (⟨#[97]⟩) (V.mk (2) (1) (⟨#[]⟩) ([]) ([]))])).n)), (.string ((objM ([Mb.mk (⟨#[98]⟩) (V.mk (3) (0) (⟨#[120]⟩) ([]) ([])), Mb.mk (⟨#[97]⟩) (V.mk (2) (1) (⟨#[]⟩) ([]) ([]))])).t)), (.slice cn41_15a (((objM ([Mb.mk (⟨#[98]⟩) (V.mk (3) (0) (⟨#[120]⟩) ([]) ([])), Mb.mk (⟨#[97]⟩) (V.mk (2) (1) (⟨#[]⟩) ([]) ([]))])).ns).length) cn41_15c), (.slice ci41_15a (((objM ([Mb.mk (⟨#[98]⟩) (V.mk (3) (0) (⟨#[120]⟩) ([]) ([])), Mb.mk (⟨#[97]⟩) (V.mk (2) (1) (⟨#[]⟩) ([]) ([]))])).xs).length) ci41_15c), (.map (some bm41_15)), (.int .i64 (tkE (objM ([Mb.mk (⟨#[98]⟩) (V.mk (3) (0) (⟨#[120]⟩) ([]) ([])), Mb.mk (⟨#[97]⟩) (V.mk (2) (1) (⟨#[]⟩) ([]) ([]))])) (tkE (objM ([Mb.mk (⟨#[98]⟩) (V.mk (3) (0) (⟨#[120]⟩) ([]) ([])), Mb.mk (⟨#[97]⟩) (V.mk (2) (1) (⟨#[]⟩) ([]) ([]))])) 0 ⟨#[97]⟩ (numE 0 9)) ⟨#[98]⟩ textE))] 74 := own_bo41_15
   replace own_bm41_15 : OwnM W22 bm41_15 (tkA (objM ([Mb.mk (⟨#[98]⟩) (V.mk (3) (0) (⟨#[120]⟩) ([]) ([])), Mb.mk (⟨#[97]⟩) (V.mk (2) (1) (⟨#[]⟩) ([]) ([]))])) (tkA (objM ([Mb.mk (⟨#[98]⟩) (V.mk (3) (0) (⟨#[120]⟩) ([]) ([])), Mb.mk (⟨#[97]⟩) (V.mk (2) (1) (⟨#[]⟩) ([]) ([]))])) ([]) 0 ⟨#[97]⟩ (numE 0 9)) (tkE (objM ([Mb.mk (⟨#[98]⟩) (V.mk (3) (0) (⟨#[120]⟩) ([]) ([])), Mb.mk (⟨#[97]⟩) (V.mk (2) (1) (⟨#[]⟩) ([]) ([]))])) 0 ⟨#[97]⟩ (numE 0 9)) ⟨#[98]⟩ textE) := own_bm41_15
   replace kw := keeps_L kw hk (in_cons (.inl lo_bo41_15) (in_cons (.inl lo_bm41_15) in_nil))
   clear hR hk hg
   refine tail_reg 3 All y22 zz22 st_tr trivial rfl ?_
   refine .i (sp_sNeq (hbs rfl e52) Has.cst) ?_
   refine .i (sp_or (hbs rfl e50) ((hlc rfl).toU)) ?_
   refine .i (sp_move (hlc rfl)) ?_
   refine .done ⟨by kernel_rfl, fun a23 g W23 y23 zz23 hk hg hV hR hP => ?_⟩
   refine tail_nil ?_
   show runTail _ _ _ _ _ _
   obtain ⟨e55, -, -, -⟩ := hV
   replace e1 := (hR 1 rfl).trans e1
   replace e5 := (hR 5 rfl).trans e5
   replace D_cn15_4 := D_cn15_4.ext hk
   replace D_ci15_4 := D_ci15_4.ext hk
   replace D_cn41_15 := D_cn41_15.ext hk
   replace D_ci41_15 := D_ci41_15.ext hk
   replace e55 := e55.q
   replace own_b1_4 := own_b1_4.ext hk
   replace own_b3_8 := own_b3_8.ext hk
   replace own_bo41_15 := own_bo41_15.ext hk
   replace own_bm41_15 := own_bm41_15.ext hk
   replace kw := kw.x hk
   clear hR hk hg hP
   refine tail_ung 13 55 false rfl 3 rfl (e55.trans (congrArg Value.bool (by kernel_rfl))) ?_
   refine tail_reg 5 All y23 zz23 st_tr trivial rfl ?_
   refine .i (sp_move (hbs rfl e5)) ?_
   refine .i (v := (.int .i64 (doneE (objM ([Mb.mk (⟨#[98]⟩) (V.mk (3) (0) (⟨#[120]⟩) ([]) ([])), Mb.mk (⟨#[97]⟩) (V.mk (2) (1) (⟨#[]⟩) ([]) ([]))])) (tkA (objM ([Mb.mk (⟨#[98]⟩) (V.mk (3) (0) (⟨#[120]⟩) ([]) ([])), Mb.mk (⟨#[97]⟩) (V.mk (2) (1) (⟨#[]⟩) ([]) ([]))])) (tkA (objM ([Mb.mk (⟨#[98]⟩) (V.mk (3) (0) (⟨#[120]⟩) ([]) ([])), Mb.mk (⟨#[97]⟩) (V.mk (2) (1) (⟨#[]⟩) ([]) ([]))])) ([]) 0 ⟨#[97]⟩ (numE 0 9)) (tkE (objM ([Mb.mk (⟨#[98]⟩) (V.mk (3) (0) (⟨#[120]⟩) ([]) ([])), Mb.mk (⟨#[97]⟩) (V.mk (2) (1) (⟨#[]⟩) ([]) ([]))])) 0 ⟨#[97]⟩ (numE 0 9)) ⟨#[98]⟩ textE) (tkE (objM ([Mb.mk (⟨#[98]⟩) (V.mk (3) (0) (⟨#[120]⟩) ([]) ([])), Mb.mk (⟨#[97]⟩) (V.mk (2) (1) (⟨#[]⟩) ([]) ([]))])) (tkE (objM ([Mb.mk (⟨#[98]⟩) (V.mk (3) (0) (⟨#[120]⟩) ([]) ([])), Mb.mk (⟨#[97]⟩) (V.mk (2) (1) (⟨#[]⟩) ([]) ([]))])) 0 ⟨#[97]⟩ (numE 0 9)) ⟨#[98]⟩ textE)))) (sp_call1 (φ1 := Is (.pointer (some ⟨bo41_15, 0, none⟩))) ent32 (hlc rfl) (fun g u1 W hk hgk h1 => by have h1 : u1 = _ := h1; subst u1; exact Done_ok ((objM ([Mb.mk (⟨#[98]⟩) (V.mk (3) (0) (⟨#[120]⟩) ([]) ([])), Mb.mk (⟨#[97]⟩) (V.mk (2) (1) (⟨#[]⟩) ([]) ([]))]))) (tkA (objM ([Mb.mk (⟨#[98]⟩) (V.mk (3) (0) (⟨#[120]⟩) ([]) ([])), Mb.mk (⟨#[97]⟩) (V.mk (2) (1) (⟨#[]⟩) ([]) ([]))])) (tkA (objM ([Mb.mk (⟨#[98]⟩) (V.mk (3) (0) (⟨#[120]⟩) ([]) ([])), Mb.mk (⟨#[97]⟩) (V.mk (2) (1) (⟨#[]⟩) ([]) ([]))])) ([]) 0 ⟨#[97]⟩ (numE 0 9)) (tkE (objM ([Mb.mk (⟨#[98]⟩) (V.mk (3) (0) (⟨#[120]⟩) ([]) ([])), Mb.mk (⟨#[97]⟩) (V.mk (2) (1) (⟨#[]⟩) ([]) ([]))])) 0 ⟨#[97]⟩ (numE 0 9)) ⟨#[98]⟩ textE) (tkE (objM ([Mb.mk (⟨#[98]⟩) (V.mk (3) (0) (⟨#[120]⟩) ([]) ([])), Mb.mk (⟨#[97]⟩) (V.mk (2) (1) (⟨#[]⟩) ([]) ([]))])) (tkE (objM ([Mb.mk (⟨#[98]⟩) (V.mk (3) (0) (⟨#[120]⟩) ([]) ([])), Mb.mk (⟨#[97]⟩) (V.mk (2) (1) (⟨#[]⟩) ([]) ([]))])) 0 ⟨#[97]⟩ (numE 0 9)) ⟨#[98]⟩ textE) W _ _ _ _ _ (D_cn41_15.ext hk) (own_bo41_15.ext hk) (own_bm41_15.ext hk))) ?_
   refine .i (sp_neq (hlc rfl) Has.cst) ?_
   refine .i (sp_or (hbs rfl e55) ((hlc rfl).toU)) ?_
   refine .i (sp_move (hlc rfl)) ?_
   refine .done ⟨by kernel_rfl, fun a24 g W24 y24 zz24 hk hg hV hR hP => ?_⟩
   refine tail_nil ?_
   show runTail _ _ _ _ _ _
   obtain ⟨e60, -, -, -, -, -⟩ := hV
   replace e1 := (hR 1 rfl).trans e1
   replace e5 := (hR 5 rfl).trans e5
   replace D_cn15_4 := D_cn15_4.ext hk
   replace D_ci15_4 := D_ci15_4.ext hk
   replace D_cn41_15 := D_cn41_15.ext hk
   replace D_ci41_15 := D_ci41_15.ext hk
   replace e60 := e60.q
   replace own_b1_4 := own_b1_4.ext hk
   replace own_b3_8 := own_b3_8.ext hk
   replace own_bo41_15 := own_bo41_15.ext hk
   replace own_bm41_15 := own_bm41_15.ext hk
   replace kw := kw.x hk
   clear hR hk hg hP
   refine tail_ung 18 60 false rfl 3 rfl (e60.trans (congrArg Value.bool (by kernel_rfl))) ?_
   refine tail_reg 2 (fun k => k ∉ [bo41_15, bm41_15]) (Ψ := fun W => Own W bo41_15 [(.int .u8 ((objM ([Mb.mk (⟨#[98]⟩) (V.mk (3) (0) (⟨#[120]⟩) ([]) ([])), Mb.mk (⟨#[97]⟩) (V.mk (2) (1) (⟨#[]⟩) ([]) ([]))])).k)), (.int .i64 ((objM ([Mb.mk (⟨#[98]⟩) (V.mk (3) (0) (⟨#[120]⟩) ([]) ([])), Mb.mk (⟨#[97]⟩) (V.mk (2) (1) (⟨#[]⟩) ([]) ([]))])).n)), (.string ((objM ([Mb.mk (⟨#[98]⟩) (V.mk (3) (0) (⟨#[120]⟩) ([]) ([])), Mb.mk (⟨#[97]⟩) (V.mk (2) (1) (⟨#[]⟩) ([]) ([]))])).t)), (.slice cn41_15a (((objM ([Mb.mk (⟨#[98]⟩) (V.mk (3) (0) (⟨#[120]⟩) ([]) ([])), Mb.mk (⟨#[97]⟩) (V.mk (2) (1) (⟨#[]⟩) ([]) ([]))])).ns).length) cn41_15c), (.slice ci41_15a (((objM ([Mb.mk (⟨#[98]⟩) (V.mk (3) (0) (⟨#[120]⟩) ([]) ([])), Mb.mk (⟨#[97]⟩) (V.mk (2) (1) (⟨#[]⟩) ([]) ([]))])).xs).length) ci41_15c), (.map (some bm41_15)), (.int .i64 (tkE (objM ([Mb.mk (⟨#[98]⟩) (V.mk (3) (0) (⟨#[120]⟩) ([]) ([])), Mb.mk (⟨#[97]⟩) (V.mk (2) (1) (⟨#[]⟩) ([]) ([]))])) (tkE (objM ([Mb.mk (⟨#[98]⟩) (V.mk (3) (0) (⟨#[120]⟩) ([]) ([])), Mb.mk (⟨#[97]⟩) (V.mk (2) (1) (⟨#[]⟩) ([]) ([]))])) 0 ⟨#[97]⟩ (numE 0 9)) ⟨#[98]⟩ textE))] 74 ∧ OwnM W bm41_15 (tkA (objM ([Mb.mk (⟨#[98]⟩) (V.mk (3) (0) (⟨#[120]⟩) ([]) ([])), Mb.mk (⟨#[97]⟩) (V.mk (2) (1) (⟨#[]⟩) ([]) ([]))])) (tkA (objM ([Mb.mk (⟨#[98]⟩) (V.mk (3) (0) (⟨#[120]⟩) ([]) ([])), Mb.mk (⟨#[97]⟩) (V.mk (2) (1) (⟨#[]⟩) ([]) ([]))])) ([]) 0 ⟨#[97]⟩ (numE 0 9)) (tkE (objM ([Mb.mk (⟨#[98]⟩) (V.mk (3) (0) (⟨#[120]⟩) ([]) ([])), Mb.mk (⟨#[97]⟩) (V.mk (2) (1) (⟨#[]⟩) ([]) ([]))])) 0 ⟨#[97]⟩ (numE 0 9)) ⟨#[98]⟩ textE)) y24 zz24 (stE_and stE_own stE_ownM) ⟨own_bo41_15, own_bm41_15⟩ rfl ?_
   refine .i (sp_move (hbs rfl e5)) ?_
   refine .callL2 (φ1 := Is (.pointer (some ⟨bo41_15, 0, none⟩))) (φ2 := Is (.string (⟨#[99]⟩))) (φ := Is (.string (if tkB (objM ([Mb.mk (⟨#[98]⟩) (V.mk (3) (0) (⟨#[120]⟩) ([]) ([])), Mb.mk (⟨#[97]⟩) (V.mk (2) (1) (⟨#[]⟩) ([]) ([]))])) (tkE (objM ([Mb.mk (⟨#[98]⟩) (V.mk (3) (0) (⟨#[120]⟩) ([]) ([])), Mb.mk (⟨#[97]⟩) (V.mk (2) (1) (⟨#[]⟩) ([]) ([]))])) (tkE (objM ([Mb.mk (⟨#[98]⟩) (V.mk (3) (0) (⟨#[120]⟩) ([]) ([])), Mb.mk (⟨#[97]⟩) (V.mk (2) (1) (⟨#[]⟩) ([]) ([]))])) 0 ⟨#[97]⟩ (numE 0 9)) ⟨#[98]⟩ textE) ⟨#[99]⟩ textE then textV (getV (objM ([Mb.mk (⟨#[98]⟩) (V.mk (3) (0) (⟨#[120]⟩) ([]) ([])), Mb.mk (⟨#[97]⟩) (V.mk (2) (1) (⟨#[]⟩) ([]) ([]))])) ⟨#[99]⟩) else ⟨#[]⟩))) (Ψ' := fun W => Own W bo41_15 [(.int .u8 ((objM ([Mb.mk (⟨#[98]⟩) (V.mk (3) (0) (⟨#[120]⟩) ([]) ([])), Mb.mk (⟨#[97]⟩) (V.mk (2) (1) (⟨#[]⟩) ([]) ([]))])).k)), (.int .i64 ((objM ([Mb.mk (⟨#[98]⟩) (V.mk (3) (0) (⟨#[120]⟩) ([]) ([])), Mb.mk (⟨#[97]⟩) (V.mk (2) (1) (⟨#[]⟩) ([]) ([]))])).n)), (.string ((objM ([Mb.mk (⟨#[98]⟩) (V.mk (3) (0) (⟨#[120]⟩) ([]) ([])), Mb.mk (⟨#[97]⟩) (V.mk (2) (1) (⟨#[]⟩) ([]) ([]))])).t)), (.slice cn41_15a (((objM ([Mb.mk (⟨#[98]⟩) (V.mk (3) (0) (⟨#[120]⟩) ([]) ([])), Mb.mk (⟨#[97]⟩) (V.mk (2) (1) (⟨#[]⟩) ([]) ([]))])).ns).length) cn41_15c), (.slice ci41_15a (((objM ([Mb.mk (⟨#[98]⟩) (V.mk (3) (0) (⟨#[120]⟩) ([]) ([])), Mb.mk (⟨#[97]⟩) (V.mk (2) (1) (⟨#[]⟩) ([]) ([]))])).xs).length) ci41_15c), (.map (some bm41_15)), (.int .i64 (tkE (objM ([Mb.mk (⟨#[98]⟩) (V.mk (3) (0) (⟨#[120]⟩) ([]) ([])), Mb.mk (⟨#[97]⟩) (V.mk (2) (1) (⟨#[]⟩) ([]) ([]))])) (tkE (objM ([Mb.mk (⟨#[98]⟩) (V.mk (3) (0) (⟨#[120]⟩) ([]) ([])), Mb.mk (⟨#[97]⟩) (V.mk (2) (1) (⟨#[]⟩) ([]) ([]))])) (tkE (objM ([Mb.mk (⟨#[98]⟩) (V.mk (3) (0) (⟨#[120]⟩) ([]) ([])), Mb.mk (⟨#[97]⟩) (V.mk (2) (1) (⟨#[]⟩) ([]) ([]))])) 0 ⟨#[97]⟩ (numE 0 9)) ⟨#[98]⟩ textE) ⟨#[99]⟩ textE))] 74 ∧ OwnM W bm41_15 (tkA (objM ([Mb.mk (⟨#[98]⟩) (V.mk (3) (0) (⟨#[120]⟩) ([]) ([])), Mb.mk (⟨#[97]⟩) (V.mk (2) (1) (⟨#[]⟩) ([]) ([]))])) (tkA (objM ([Mb.mk (⟨#[98]⟩) (V.mk (3) (0) (⟨#[120]⟩) ([]) ([])), Mb.mk (⟨#[97]⟩) (V.mk (2) (1) (⟨#[]⟩) ([]) ([]))])) (tkA (objM ([Mb.mk (⟨#[98]⟩) (V.mk (3) (0) (⟨#[120]⟩) ([]) ([])), Mb.mk (⟨#[97]⟩) (V.mk (2) (1) (⟨#[]⟩) ([]) ([]))])) ([]) 0 ⟨#[97]⟩ (numE 0 9)) (tkE (objM ([Mb.mk (⟨#[98]⟩) (V.mk (3) (0) (⟨#[120]⟩) ([]) ([])), Mb.mk (⟨#[97]⟩) (V.mk (2) (1) (⟨#[]⟩) ([]) ([]))])) 0 ⟨#[97]⟩ (numE 0 9)) ⟨#[98]⟩ textE) (tkE (objM ([Mb.mk (⟨#[98]⟩) (V.mk (3) (0) (⟨#[120]⟩) ([]) ([])), Mb.mk (⟨#[97]⟩) (V.mk (2) (1) (⟨#[]⟩) ([]) ([]))])) (tkE (objM ([Mb.mk (⟨#[98]⟩) (V.mk (3) (0) (⟨#[120]⟩) ([]) ([])), Mb.mk (⟨#[97]⟩) (V.mk (2) (1) (⟨#[]⟩) ([]) ([]))])) 0 ⟨#[97]⟩ (numE 0 9)) ⟨#[98]⟩ textE) ⟨#[99]⟩ textE)) ent43 (hlc rfl) Has.cst (st_is _) (stE_and stE_own stE_ownM) (fun g u1 u2 W hk hg h1 h2 hP => by have h1 : u1 = _ := h1; subst u1; have h2 : u2 = _ := h2; subst u2; exact (Text_ok ((objM ([Mb.mk (⟨#[98]⟩) (V.mk (3) (0) (⟨#[120]⟩) ([]) ([])), Mb.mk (⟨#[97]⟩) (V.mk (2) (1) (⟨#[]⟩) ([]) ([]))]))) (tkA (objM ([Mb.mk (⟨#[98]⟩) (V.mk (3) (0) (⟨#[120]⟩) ([]) ([])), Mb.mk (⟨#[97]⟩) (V.mk (2) (1) (⟨#[]⟩) ([]) ([]))])) (tkA (objM ([Mb.mk (⟨#[98]⟩) (V.mk (3) (0) (⟨#[120]⟩) ([]) ([])), Mb.mk (⟨#[97]⟩) (V.mk (2) (1) (⟨#[]⟩) ([]) ([]))])) ([]) 0 ⟨#[97]⟩ (numE 0 9)) (tkE (objM ([Mb.mk (⟨#[98]⟩) (V.mk (3) (0) (⟨#[120]⟩) ([]) ([])), Mb.mk (⟨#[97]⟩) (V.mk (2) (1) (⟨#[]⟩) ([]) ([]))])) 0 ⟨#[97]⟩ (numE 0 9)) ⟨#[98]⟩ textE) (tkE (objM ([Mb.mk (⟨#[98]⟩) (V.mk (3) (0) (⟨#[120]⟩) ([]) ([])), Mb.mk (⟨#[97]⟩) (V.mk (2) (1) (⟨#[]⟩) ([]) ([]))])) (tkE (objM ([Mb.mk (⟨#[98]⟩) (V.mk (3) (0) (⟨#[120]⟩) ([]) ([])), Mb.mk (⟨#[97]⟩) (V.mk (2) (1) (⟨#[]⟩) ([]) ([]))])) 0 ⟨#[97]⟩ (numE 0 9)) ⟨#[98]⟩ textE) (AB.nil.tk.tk.mono (by omega)) (Nat.le_of_ble_eq_true (by kernel_rfl)) tb41_15 ⟨#[99]⟩ W _ _ _ _ _ (fun b o h => h.2.1) (sf_notin (by simp)) ne_bo41_15_bm41_15 (sf_keepL D_cn41_15 hk (by simp)) (sf_keepL D_ci41_15 hk (by simp)) hP.1 hP.2)) ?_
   refine .done ⟨by kernel_rfl, fun a25 g W25 y25 zz25 hk hg hV hR hP => ?_⟩
   refine tail_nil ?_
   show runTail _ _ _ _ _ _
   obtain ⟨e62, -, -⟩ := hV
   replace e1 := (hR 1 rfl).trans e1
   replace e5 := (hR 5 rfl).trans e5
   replace e60 := (hR 60 rfl).trans e60
   replace e62 := e62.q
   replace D_cn15_4 := sf_keepL D_cn15_4 hk (by simp)
   replace D_ci15_4 := sf_keepL D_ci15_4 hk (by simp)
   replace D_cn41_15 := sf_keepL D_cn41_15 hk (by simp)
   replace D_ci41_15 := sf_keepL D_ci41_15 hk (by simp)
   replace own_b1_4 := own_keepL own_b1_4 hk (by simp [ne_b1_4_bo41_15, ne_b1_4_bm41_15])
   replace own_b3_8 := own_keepL own_b3_8 hk (by simp [ne_b3_8_bo41_15, ne_b3_8_bm41_15])
   obtain ⟨own_bo41_15, own_bm41_15⟩ := hP
   replace own_bo41_15 : Own W25 bo41_15 [(.int .u8 ((objM ([Mb.mk (⟨#[98]⟩) (V.mk (3) (0) (⟨#[120]⟩) ([]) ([])), Mb.mk (⟨#[97]⟩) (V.mk (2) (1) (⟨#[]⟩) ([]) ([]))])).k)), (.int .i64 ((objM ([Mb.mk (⟨#[98]⟩) (V.mk (3) (0) (⟨#[120]⟩) ([]) ([])), Mb.mk (⟨#[97]⟩) (V.mk (2) (1) (⟨#[]⟩) ([]) ([]))])).n)), (.string ((objM ([Mb.mk (⟨#[98]⟩) (V.mk (3) (0) (⟨#[120]⟩) ([]) ([])), Mb.mk (⟨#[97]⟩) (V.mk (2) (1) (⟨#[]⟩) ([]) ([]))])).t)), (.slice cn41_15a (((objM ([Mb.mk (⟨#[98]⟩) (V.mk (3) (0) (⟨#[120]⟩) ([]) ([])), Mb.mk (⟨#[97]⟩) (V.mk (2) (1) (⟨#[]⟩) ([]) ([]))])).ns).length) cn41_15c), (.slice ci41_15a (((objM ([Mb.mk (⟨#[98]⟩) (V.mk (3) (0) (⟨#[120]⟩) ([]) ([])), Mb.mk (⟨#[97]⟩) (V.mk (2) (1) (⟨#[]⟩) ([]) ([]))])).xs).length) ci41_15c), (.map (some bm41_15)), (.int .i64 (tkE (objM ([Mb.mk (⟨#[98]⟩) (V.mk (3) (0) (⟨#[120]⟩) ([]) ([])), Mb.mk (⟨#[97]⟩) (V.mk (2) (1) (⟨#[]⟩) ([]) ([]))])) (tkE (objM ([Mb.mk (⟨#[98]⟩) (V.mk (3) (0) (⟨#[120]⟩) ([]) ([])), Mb.mk (⟨#[97]⟩) (V.mk (2) (1) (⟨#[]⟩) ([]) ([]))])) (tkE (objM ([Mb.mk (⟨#[98]⟩) (V.mk (3) (0) (⟨#[120]⟩) ([]) ([])), Mb.mk (⟨#[97]⟩) (V.mk (2) (1) (⟨#[]⟩) ([]) ([]))])) 0 ⟨#[97]⟩ (numE 0 9)) ⟨#[98]⟩ textE) ⟨#[99]⟩ textE))] 74 := own_bo41_15
   replace own_bm41_15 : OwnM W25 bm41_15 (tkA (objM ([Mb.mk (⟨#[98]⟩) (V.mk (3) (0) (⟨#[120]⟩) ([]) ([])), Mb.mk (⟨#[97]⟩) (V.mk (2) (1) (⟨#[]⟩) ([]) ([]))])) (tkA (objM ([Mb.mk (⟨#[98]⟩) (V.mk (3) (0) (⟨#[120]⟩) ([]) ([])), Mb.mk (⟨#[97]⟩) (V.mk (2) (1) (⟨#[]⟩) ([]) ([]))])) (tkA (objM ([Mb.mk (⟨#[98]⟩) (V.mk (3) (0) (⟨#[120]⟩) ([]) ([])), Mb.mk (⟨#[97]⟩) (V.mk (2) (1) (⟨#[]⟩) ([]) ([]))])) ([]) 0 ⟨#[97]⟩ (numE 0 9)) (tkE (objM ([Mb.mk (⟨#[98]⟩) (V.mk (3) (0) (⟨#[120]⟩) ([]) ([])), Mb.mk (⟨#[97]⟩) (V.mk (2) (1) (⟨#[]⟩) ([]) ([]))])) 0 ⟨#[97]⟩ (numE 0 9)) ⟨#[98]⟩ textE) (tkE (objM ([Mb.mk (⟨#[98]⟩) (V.mk (3) (0) (⟨#[120]⟩) ([]) ([])), Mb.mk (⟨#[97]⟩) (V.mk (2) (1) (⟨#[]⟩) ([]) ([]))])) (tkE (objM ([Mb.mk (⟨#[98]⟩) (V.mk (3) (0) (⟨#[120]⟩) ([]) ([])), Mb.mk (⟨#[97]⟩) (V.mk (2) (1) (⟨#[]⟩) ([]) ([]))])) 0 ⟨#[97]⟩ (numE 0 9)) ⟨#[98]⟩ textE) ⟨#[99]⟩ textE) := own_bm41_15
   replace kw := keeps_L kw hk (in_cons (.inl lo_bo41_15) (in_cons (.inl lo_bm41_15) in_nil))
   clear hR hk hg
   refine tail_reg 3 All y25 zz25 st_tr trivial rfl ?_
   refine .i (sp_sNeq (hbs rfl e62) Has.cst) ?_
   refine .i (sp_or (hbs rfl e60) ((hlc rfl).toU)) ?_
   refine .i (sp_move (hlc rfl)) ?_
   refine .done ⟨by kernel_rfl, fun a26 g W26 y26 zz26 hk hg hV hR hP => ?_⟩
   refine tail_nil ?_
   show runTail _ _ _ _ _ _
   obtain ⟨e65, -, -, -⟩ := hV
   replace e1 := (hR 1 rfl).trans e1
   replace e5 := (hR 5 rfl).trans e5
   replace D_cn15_4 := D_cn15_4.ext hk
   replace D_ci15_4 := D_ci15_4.ext hk
   replace D_cn41_15 := D_cn41_15.ext hk
   replace D_ci41_15 := D_ci41_15.ext hk
   replace e65 := e65.q
   replace own_b1_4 := own_b1_4.ext hk
   replace own_b3_8 := own_b3_8.ext hk
   replace own_bo41_15 := own_bo41_15.ext hk
   replace own_bm41_15 := own_bm41_15.ext hk
   replace kw := kw.x hk
   clear hR hk hg hP
   refine tail_ung 23 65 false rfl 3 rfl (e65.trans (congrArg Value.bool (by kernel_rfl))) ?_
   refine tail_reg 4 All y26 zz26 st_tr trivial rfl ?_
   refine .i (sp_move (hbs rfl e5)) ?_
   refine .i (v := (.int .i64 (doneE (objM ([Mb.mk (⟨#[98]⟩) (V.mk (3) (0) (⟨#[120]⟩) ([]) ([])), Mb.mk (⟨#[97]⟩) (V.mk (2) (1) (⟨#[]⟩) ([]) ([]))])) (tkA (objM ([Mb.mk (⟨#[98]⟩) (V.mk (3) (0) (⟨#[120]⟩) ([]) ([])), Mb.mk (⟨#[97]⟩) (V.mk (2) (1) (⟨#[]⟩) ([]) ([]))])) (tkA (objM ([Mb.mk (⟨#[98]⟩) (V.mk (3) (0) (⟨#[120]⟩) ([]) ([])), Mb.mk (⟨#[97]⟩) (V.mk (2) (1) (⟨#[]⟩) ([]) ([]))])) (tkA (objM ([Mb.mk (⟨#[98]⟩) (V.mk (3) (0) (⟨#[120]⟩) ([]) ([])), Mb.mk (⟨#[97]⟩) (V.mk (2) (1) (⟨#[]⟩) ([]) ([]))])) ([]) 0 ⟨#[97]⟩ (numE 0 9)) (tkE (objM ([Mb.mk (⟨#[98]⟩) (V.mk (3) (0) (⟨#[120]⟩) ([]) ([])), Mb.mk (⟨#[97]⟩) (V.mk (2) (1) (⟨#[]⟩) ([]) ([]))])) 0 ⟨#[97]⟩ (numE 0 9)) ⟨#[98]⟩ textE) (tkE (objM ([Mb.mk (⟨#[98]⟩) (V.mk (3) (0) (⟨#[120]⟩) ([]) ([])), Mb.mk (⟨#[97]⟩) (V.mk (2) (1) (⟨#[]⟩) ([]) ([]))])) (tkE (objM ([Mb.mk (⟨#[98]⟩) (V.mk (3) (0) (⟨#[120]⟩) ([]) ([])), Mb.mk (⟨#[97]⟩) (V.mk (2) (1) (⟨#[]⟩) ([]) ([]))])) 0 ⟨#[97]⟩ (numE 0 9)) ⟨#[98]⟩ textE) ⟨#[99]⟩ textE) (tkE (objM ([Mb.mk (⟨#[98]⟩) (V.mk (3) (0) (⟨#[120]⟩) ([]) ([])), Mb.mk (⟨#[97]⟩) (V.mk (2) (1) (⟨#[]⟩) ([]) ([]))])) (tkE (objM ([Mb.mk (⟨#[98]⟩) (V.mk (3) (0) (⟨#[120]⟩) ([]) ([])), Mb.mk (⟨#[97]⟩) (V.mk (2) (1) (⟨#[]⟩) ([]) ([]))])) (tkE (objM ([Mb.mk (⟨#[98]⟩) (V.mk (3) (0) (⟨#[120]⟩) ([]) ([])), Mb.mk (⟨#[97]⟩) (V.mk (2) (1) (⟨#[]⟩) ([]) ([]))])) 0 ⟨#[97]⟩ (numE 0 9)) ⟨#[98]⟩ textE) ⟨#[99]⟩ textE)))) (sp_call1 (φ1 := Is (.pointer (some ⟨bo41_15, 0, none⟩))) ent32 (hlc rfl) (fun g u1 W hk hgk h1 => by have h1 : u1 = _ := h1; subst u1; exact Done_ok ((objM ([Mb.mk (⟨#[98]⟩) (V.mk (3) (0) (⟨#[120]⟩) ([]) ([])), Mb.mk (⟨#[97]⟩) (V.mk (2) (1) (⟨#[]⟩) ([]) ([]))]))) (tkA (objM ([Mb.mk (⟨#[98]⟩) (V.mk (3) (0) (⟨#[120]⟩) ([]) ([])), Mb.mk (⟨#[97]⟩) (V.mk (2) (1) (⟨#[]⟩) ([]) ([]))])) (tkA (objM ([Mb.mk (⟨#[98]⟩) (V.mk (3) (0) (⟨#[120]⟩) ([]) ([])), Mb.mk (⟨#[97]⟩) (V.mk (2) (1) (⟨#[]⟩) ([]) ([]))])) (tkA (objM ([Mb.mk (⟨#[98]⟩) (V.mk (3) (0) (⟨#[120]⟩) ([]) ([])), Mb.mk (⟨#[97]⟩) (V.mk (2) (1) (⟨#[]⟩) ([]) ([]))])) ([]) 0 ⟨#[97]⟩ (numE 0 9)) (tkE (objM ([Mb.mk (⟨#[98]⟩) (V.mk (3) (0) (⟨#[120]⟩) ([]) ([])), Mb.mk (⟨#[97]⟩) (V.mk (2) (1) (⟨#[]⟩) ([]) ([]))])) 0 ⟨#[97]⟩ (numE 0 9)) ⟨#[98]⟩ textE) (tkE (objM ([Mb.mk (⟨#[98]⟩) (V.mk (3) (0) (⟨#[120]⟩) ([]) ([])), Mb.mk (⟨#[97]⟩) (V.mk (2) (1) (⟨#[]⟩) ([]) ([]))])) (tkE (objM ([Mb.mk (⟨#[98]⟩) (V.mk (3) (0) (⟨#[120]⟩) ([]) ([])), Mb.mk (⟨#[97]⟩) (V.mk (2) (1) (⟨#[]⟩) ([]) ([]))])) 0 ⟨#[97]⟩ (numE 0 9)) ⟨#[98]⟩ textE) ⟨#[99]⟩ textE) (tkE (objM ([Mb.mk (⟨#[98]⟩) (V.mk (3) (0) (⟨#[120]⟩) ([]) ([])), Mb.mk (⟨#[97]⟩) (V.mk (2) (1) (⟨#[]⟩) ([]) ([]))])) (tkE (objM ([Mb.mk (⟨#[98]⟩) (V.mk (3) (0) (⟨#[120]⟩) ([]) ([])), Mb.mk (⟨#[97]⟩) (V.mk (2) (1) (⟨#[]⟩) ([]) ([]))])) (tkE (objM ([Mb.mk (⟨#[98]⟩) (V.mk (3) (0) (⟨#[120]⟩) ([]) ([])), Mb.mk (⟨#[97]⟩) (V.mk (2) (1) (⟨#[]⟩) ([]) ([]))])) 0 ⟨#[97]⟩ (numE 0 9)) ⟨#[98]⟩ textE) ⟨#[99]⟩ textE) W _ _ _ _ _ (D_cn41_15.ext hk) (own_bo41_15.ext hk) (own_bm41_15.ext hk))) ?_
   refine .i (sp_neq (hlc rfl) Has.cst) ?_
   refine .i (sp_or (hbs rfl e65) ((hlc rfl).toU)) ?_
   refine .done ⟨by kernel_rfl, fun a27 g W27 y27 zz27 hk hg hV hR hP => ?_⟩
   refine tail_nil ?_
   show runTail _ _ _ _ _ _
   obtain ⟨e69, -, -, -, -⟩ := hV
   replace e1 := (hR 1 rfl).trans e1
   replace D_cn15_4 := D_cn15_4.ext hk
   replace D_ci15_4 := D_ci15_4.ext hk
   replace D_cn41_15 := D_cn41_15.ext hk
   replace D_ci41_15 := D_ci41_15.ext hk
   replace e69 := e69.q
   replace own_b1_4 := own_b1_4.ext hk
   replace own_b3_8 := own_b3_8.ext hk
   replace own_bo41_15 := own_bo41_15.ext hk
   replace own_bm41_15 := own_bm41_15.ext hk
   replace kw := kw.x hk
   clear hR hk hg hP
   refine tail_nil (hK18 _ _ ?_)
   refine wp_cond_split e69 (fun hc => ?_) (fun hc => ?_)
   ·
    exfalso
    exact Bool.noConfusion (hc.symm.trans (by kernel_rfl : _ = false))
   ·
    refine wp_skip (hK17 _ _ ?_)
    refine wp_seq_k fun K28 hK28 => ?_
    refine rg mixed y27 zz27 ?_
    refine .i (v := (.agg #[(.int .u8 ((objM ([Mb.mk (⟨#[98]⟩) (V.mk (3) (0) (⟨#[120]⟩) ([]) ([])), Mb.mk (⟨#[97]⟩) (V.mk (2) (1) (⟨#[]⟩) ([]) ([]))])).k)), (.int .i64 ((objM ([Mb.mk (⟨#[98]⟩) (V.mk (3) (0) (⟨#[120]⟩) ([]) ([])), Mb.mk (⟨#[97]⟩) (V.mk (2) (1) (⟨#[]⟩) ([]) ([]))])).n)), (.string ((objM ([Mb.mk (⟨#[98]⟩) (V.mk (3) (0) (⟨#[120]⟩) ([]) ([])), Mb.mk (⟨#[97]⟩) (V.mk (2) (1) (⟨#[]⟩) ([]) ([]))])).t)), (.slice cn15_4a (((objM ([Mb.mk (⟨#[98]⟩) (V.mk (3) (0) (⟨#[120]⟩) ([]) ([])), Mb.mk (⟨#[97]⟩) (V.mk (2) (1) (⟨#[]⟩) ([]) ([]))])).ns).length) cn15_4c), (.slice ci15_4a (((objM ([Mb.mk (⟨#[98]⟩) (V.mk (3) (0) (⟨#[120]⟩) ([]) ([])), Mb.mk (⟨#[97]⟩) (V.mk (2) (1) (⟨#[]⟩) ([]) ([]))])).xs).length) ci15_4c)])) (loA (hbs rfl e1) own_b1_4 trivial agg33 sz33 rfl rfl) ?_
    refine .op (φ := IsPk W27 74 ((objM ([Mb.mk (⟨#[98]⟩) (V.mk (3) (0) (⟨#[120]⟩) ([]) ([])), Mb.mk (⟨#[97]⟩) (V.mk (2) (1) (⟨#[]⟩) ([]) ([]))]))) ([]) (0)) st_pk (sp_call1 (φ1 := IsD (SF w [bo41_15, bm41_15, b3_8, b1_4]) (V.d ((objM ([Mb.mk (⟨#[98]⟩) (V.mk (3) (0) (⟨#[120]⟩) ([]) ([])), Mb.mk (⟨#[97]⟩) (V.mk (2) (1) (⟨#[]⟩) ([]) ([]))]))))) ent21 ((hlc rfl).dat (rdV_in (x := (objM ([Mb.mk (⟨#[98]⟩) (V.mk (3) (0) (⟨#[120]⟩) ([]) ([])), Mb.mk (⟨#[97]⟩) (V.mk (2) (1) (⟨#[]⟩) ([]) ([]))]))) ht_v15_4 D_cn15_4 D_ci15_4 : Rd W27 (SF w [bo41_15, bm41_15, b3_8, b1_4]) (V.d ((objM ([Mb.mk (⟨#[98]⟩) (V.mk (3) (0) (⟨#[120]⟩) ([]) ([])), Mb.mk (⟨#[97]⟩) (V.mk (2) (1) (⟨#[]⟩) ([]) ([]))])))) _) sub_all) (fun g u1 W hk hgk h1 => (Of_ok ((objM ([Mb.mk (⟨#[98]⟩) (V.mk (3) (0) (⟨#[120]⟩) ([]) ([])), Mb.mk (⟨#[97]⟩) (V.mk (2) (1) (⟨#[]⟩) ([]) ([]))]))) (Nat.le_of_ble_eq_true (by kernel_rfl)) (by kernel_rfl) W _ _ (fun b o h => h.1.2.1) h1).mono (fun _ _ ⟨v, h1, h2, h3⟩ => ⟨v, h1, h2, pk_up hk h3⟩))) ?_
    refine .i (v := (.agg #[(.int .u8 ((objM ([Mb.mk (⟨#[98]⟩) (V.mk (3) (0) (⟨#[120]⟩) ([]) ([])), Mb.mk (⟨#[97]⟩) (V.mk (2) (1) (⟨#[]⟩) ([]) ([]))])).k)), (.int .i64 ((objM ([Mb.mk (⟨#[98]⟩) (V.mk (3) (0) (⟨#[120]⟩) ([]) ([])), Mb.mk (⟨#[97]⟩) (V.mk (2) (1) (⟨#[]⟩) ([]) ([]))])).n)), (.string ((objM ([Mb.mk (⟨#[98]⟩) (V.mk (3) (0) (⟨#[120]⟩) ([]) ([])), Mb.mk (⟨#[97]⟩) (V.mk (2) (1) (⟨#[]⟩) ([]) ([]))])).t)), (.slice cn15_4a (((objM ([Mb.mk (⟨#[98]⟩) (V.mk (3) (0) (⟨#[120]⟩) ([]) ([])), Mb.mk (⟨#[97]⟩) (V.mk (2) (1) (⟨#[]⟩) ([]) ([]))])).ns).length) cn15_4c), (.slice ci15_4a (((objM ([Mb.mk (⟨#[98]⟩) (V.mk (3) (0) (⟨#[120]⟩) ([]) ([])), Mb.mk (⟨#[97]⟩) (V.mk (2) (1) (⟨#[]⟩) ([]) ([]))])).xs).length) ci15_4c)])) (loA (hbs rfl e1) own_b1_4 trivial agg33 sz33 rfl rfl) ?_
    refine .done ⟨by kernel_rfl, fun a29 g W29 y29 zz29 hk hg hV hR hP => ?_⟩
    obtain ⟨e72, e71, -, -⟩ := hV
    obtain ⟨bo71_29, bm71_29, cn71_29v, ci71_29v, e71, lr_bo71_29, lr_bm71_29, ne_bo71_29_bm71_29, own_bo71_29, own_bm71_29, D_cn71_29, D_ci71_29, tb71_29⟩ := e71
    obtain ⟨cn71_29a, cn71_29c, ev, D2⟩ := rdS_out D_cn71_29; subst ev; replace D_cn71_29 := D2; clear D2
    obtain ⟨ci71_29a, ci71_29c, ev, D2⟩ := rdVs_out D_ci71_29; subst ev; replace D_ci71_29 := D2; clear D2
    have e71 : sl a29 71 = (.pointer (some ⟨bo71_29, 0, none⟩)) := e71
    have lo_bo71_29 : w.heap.size ≤ bo71_29 := Nat.le_trans kw.size lr_bo71_29
    have ne_b1_4_bo71_29 : b1_4 ≠ bo71_29 := Nat.ne_of_lt (Nat.lt_of_lt_of_le own_b1_4.lt lr_bo71_29)
    have ne_b3_8_bo71_29 : b3_8 ≠ bo71_29 := Nat.ne_of_lt (Nat.lt_of_lt_of_le own_b3_8.lt lr_bo71_29)
    have ne_bo41_15_bo71_29 : bo41_15 ≠ bo71_29 := Nat.ne_of_lt (Nat.lt_of_lt_of_le own_bo41_15.lt lr_bo71_29)
    have ne_bm41_15_bo71_29 : bm41_15 ≠ bo71_29 := Nat.ne_of_lt (Nat.lt_of_lt_of_le own_bm41_15.lt lr_bo71_29)
    have lo_bm71_29 : w.heap.size ≤ bm71_29 := Nat.le_trans kw.size lr_bm71_29
    have ne_b1_4_bm71_29 : b1_4 ≠ bm71_29 := Nat.ne_of_lt (Nat.lt_of_lt_of_le own_b1_4.lt lr_bm71_29)
    have ne_b3_8_bm71_29 : b3_8 ≠ bm71_29 := Nat.ne_of_lt (Nat.lt_of_lt_of_le own_b3_8.lt lr_bm71_29)
    have ne_bo41_15_bm71_29 : bo41_15 ≠ bm71_29 := Nat.ne_of_lt (Nat.lt_of_lt_of_le own_bo41_15.lt lr_bm71_29)
    have ne_bm41_15_bm71_29 : bm41_15 ≠ bm71_29 := Nat.ne_of_lt (Nat.lt_of_lt_of_le own_bm41_15.lt lr_bm71_29)
    replace D_cn15_4 : Rd W29 (SF w [bo71_29, bm71_29, bo41_15, bm41_15, b3_8, b1_4]) (strsD ((objM ([Mb.mk (⟨#[98]⟩) (V.mk (3) (0) (⟨#[120]⟩) ([]) ([])), Mb.mk (⟨#[97]⟩) (V.mk (2) (1) (⟨#[]⟩) ([]) ([]))])).ns)) (.slice cn15_4a (((objM ([Mb.mk (⟨#[98]⟩) (V.mk (3) (0) (⟨#[120]⟩) ([]) ([])), Mb.mk (⟨#[97]⟩) (V.mk (2) (1) (⟨#[]⟩) ([]) ([]))])).ns).length) cn15_4c) := sf_more D_cn15_4 hk [bo71_29, bm71_29] (in_cons lr_bo71_29 (in_cons lr_bm71_29 in_nil))
    replace D_ci15_4 : Rd W29 (SF w [bo71_29, bm71_29, bo41_15, bm41_15, b3_8, b1_4]) (valsD ((objM ([Mb.mk (⟨#[98]⟩) (V.mk (3) (0) (⟨#[120]⟩) ([]) ([])), Mb.mk (⟨#[97]⟩) (V.mk (2) (1) (⟨#[]⟩) ([]) ([]))])).xs)) (.slice ci15_4a (((objM ([Mb.mk (⟨#[98]⟩) (V.mk (3) (0) (⟨#[120]⟩) ([]) ([])), Mb.mk (⟨#[97]⟩) (V.mk (2) (1) (⟨#[]⟩) ([]) ([]))])).xs).length) ci15_4c) := sf_more D_ci15_4 hk [bo71_29, bm71_29] (in_cons lr_bo71_29 (in_cons lr_bm71_29 in_nil))
    replace D_cn71_29 : Rd W29 (SF w [bo71_29, bm71_29, bo41_15, bm41_15, b3_8, b1_4]) (strsD ((objM ([Mb.mk (⟨#[98]⟩) (V.mk (3) (0) (⟨#[120]⟩) ([]) ([])), Mb.mk (⟨#[97]⟩) (V.mk (2) (1) (⟨#[]⟩) ([]) ([]))])).ns)) (.slice cn71_29a (((objM ([Mb.mk (⟨#[98]⟩) (V.mk (3) (0) (⟨#[120]⟩) ([]) ([])), Mb.mk (⟨#[97]⟩) (V.mk (2) (1) (⟨#[]⟩) ([]) ([]))])).ns).length) cn71_29c) := pk_data kw (in_cons own_bo41_15.lt (in_cons own_bm41_15.lt (in_cons own_b3_8.lt (in_cons own_b1_4.lt in_nil)))) D_cn71_29
    replace D_ci71_29 : Rd W29 (SF w [bo71_29, bm71_29, bo41_15, bm41_15, b3_8, b1_4]) (valsD ((objM ([Mb.mk (⟨#[98]⟩) (V.mk (3) (0) (⟨#[120]⟩) ([]) ([])), Mb.mk (⟨#[97]⟩) (V.mk (2) (1) (⟨#[]⟩) ([]) ([]))])).xs)) (.slice ci71_29a (((objM ([Mb.mk (⟨#[98]⟩) (V.mk (3) (0) (⟨#[120]⟩) ([]) ([])), Mb.mk (⟨#[97]⟩) (V.mk (2) (1) (⟨#[]⟩) ([]) ([]))])).xs).length) ci71_29c) := pk_data kw (in_cons own_bo41_15.lt (in_cons own_bm41_15.lt (in_cons own_b3_8.lt (in_cons own_b1_4.lt in_nil)))) D_ci71_29
    have own_bo71_29 : Own W29 bo71_29 [(.int .u8 ((objM ([Mb.mk (⟨#[98]⟩) (V.mk (3) (0) (⟨#[120]⟩) ([]) ([])), Mb.mk (⟨#[97]⟩) (V.mk (2) (1) (⟨#[]⟩) ([]) ([]))])).k)), (.int .i64 ((objM ([Mb.mk (⟨#[98]⟩) (V.mk (3) (0) (⟨#[120]⟩) ([]) ([])), Mb.mk (⟨#[97]⟩) (V.mk (2) (1) (⟨#[]⟩) ([]) ([]))])).n)), (.string ((objM ([Mb.mk (⟨#[98]⟩) (V.mk (3) (0) (⟨#[120]⟩) ([]) ([])), Mb.mk (⟨#[97]⟩) (V.mk (2) (1) (⟨#[]⟩) ([]) ([]))])).t)), (.slice cn71_29a (((objM ([Mb.mk (⟨#[98]⟩) (V.mk (3) (0) (⟨#[120]⟩) ([]) ([])), Mb.mk (⟨#[97]⟩) (V.mk (2) (1) (⟨#[]⟩) ([]) ([]))])).ns).length) cn71_29c), (.slice ci71_29a (((objM ([Mb.mk (⟨#[98]⟩) (V.mk (3) (0) (⟨#[120]⟩) ([]) ([])), Mb.mk (⟨#[97]⟩) (V.mk (2) (1) (⟨#[]⟩) ([]) ([]))])).xs).length) ci71_29c), (.map (some bm71_29)), (.int .i64 (0))] 74 := own_bo71_29
    have own_bm71_29 : OwnM W29 bm71_29 ([]) := own_bm71_29
    replace e72 := e72.q
    replace own_b1_4 := own_b1_4.ext hk
    replace own_b3_8 := own_b3_8.ext hk
    replace own_bo41_15 := own_bo41_15.ext hk
    replace own_bm41_15 := own_bm41_15.ext hk
    replace kw := kw.x hk
    clear hR hk hg hP lr_bo71_29 lr_bm71_29
    refine tail_reg 1 All y29 zz29 st_tr trivial rfl ?_
    refine .op (φ := IsPk W29 74 ((objM ([Mb.mk (⟨#[98]⟩) (V.mk (3) (0) (⟨#[120]⟩) ([]) ([])), Mb.mk (⟨#[97]⟩) (V.mk (2) (1) (⟨#[]⟩) ([]) ([]))]))) ([]) (0)) st_pk (sp_call1 (φ1 := IsD (SF w [bo71_29, bm71_29, bo41_15, bm41_15, b3_8, b1_4]) (V.d ((objM ([Mb.mk (⟨#[98]⟩) (V.mk (3) (0) (⟨#[120]⟩) ([]) ([])), Mb.mk (⟨#[97]⟩) (V.mk (2) (1) (⟨#[]⟩) ([]) ([]))]))))) ent21 ((hbs rfl e72).dat (rdV_in (x := (objM ([Mb.mk (⟨#[98]⟩) (V.mk (3) (0) (⟨#[120]⟩) ([]) ([])), Mb.mk (⟨#[97]⟩) (V.mk (2) (1) (⟨#[]⟩) ([]) ([]))]))) ht_v15_4 D_cn15_4 D_ci15_4 : Rd W29 (SF w [bo71_29, bm71_29, bo41_15, bm41_15, b3_8, b1_4]) (V.d ((objM ([Mb.mk (⟨#[98]⟩) (V.mk (3) (0) (⟨#[120]⟩) ([]) ([])), Mb.mk (⟨#[97]⟩) (V.mk (2) (1) (⟨#[]⟩) ([]) ([]))])))) _) sub_all) (fun g u1 W hk hgk h1 => (Of_ok ((objM ([Mb.mk (⟨#[98]⟩) (V.mk (3) (0) (⟨#[120]⟩) ([]) ([])), Mb.mk (⟨#[97]⟩) (V.mk (2) (1) (⟨#[]⟩) ([]) ([]))]))) (Nat.le_of_ble_eq_true (by kernel_rfl)) (by kernel_rfl) W _ _ (fun b o h => h.1.2.1) h1).mono (fun _ _ ⟨v, h1, h2, h3⟩ => ⟨v, h1, h2, pk_up hk h3⟩))) ?_
    refine .done ⟨by kernel_rfl, fun a30 g W30 y30 zz30 hk hg hV hR hP => ?_⟩
    refine tail_nil ?_
    show runTail _ _ _ _ _ _
    obtain ⟨e73, -⟩ := hV
    replace e71 := (hR 71 rfl).trans e71
    obtain ⟨bo73_30, bm73_30, cn73_30v, ci73_30v, e73, lr_bo73_30, lr_bm73_30, ne_bo73_30_bm73_30, own_bo73_30, own_bm73_30, D_cn73_30, D_ci73_30, tb73_30⟩ := e73
    obtain ⟨cn73_30a, cn73_30c, ev, D2⟩ := rdS_out D_cn73_30; subst ev; replace D_cn73_30 := D2; clear D2
    obtain ⟨ci73_30a, ci73_30c, ev, D2⟩ := rdVs_out D_ci73_30; subst ev; replace D_ci73_30 := D2; clear D2
    have e73 : sl a30 73 = (.pointer (some ⟨bo73_30, 0, none⟩)) := e73
    have lo_bo73_30 : w.heap.size ≤ bo73_30 := Nat.le_trans kw.size lr_bo73_30
    have ne_b1_4_bo73_30 : b1_4 ≠ bo73_30 := Nat.ne_of_lt (Nat.lt_of_lt_of_le own_b1_4.lt lr_bo73_30)
    have ne_b3_8_bo73_30 : b3_8 ≠ bo73_30 := Nat.ne_of_lt (Nat.lt_of_lt_of_le own_b3_8.lt lr_bo73_30)
    have ne_bo41_15_bo73_30 : bo41_15 ≠ bo73_30 := Nat.ne_of_lt (Nat.lt_of_lt_of_le own_bo41_15.lt lr_bo73_30)
    have ne_bm41_15_bo73_30 : bm41_15 ≠ bo73_30 := Nat.ne_of_lt (Nat.lt_of_lt_of_le own_bm41_15.lt lr_bo73_30)
    have ne_bo71_29_bo73_30 : bo71_29 ≠ bo73_30 := Nat.ne_of_lt (Nat.lt_of_lt_of_le own_bo71_29.lt lr_bo73_30)
    have ne_bm71_29_bo73_30 : bm71_29 ≠ bo73_30 := Nat.ne_of_lt (Nat.lt_of_lt_of_le own_bm71_29.lt lr_bo73_30)
    have lo_bm73_30 : w.heap.size ≤ bm73_30 := Nat.le_trans kw.size lr_bm73_30
    have ne_b1_4_bm73_30 : b1_4 ≠ bm73_30 := Nat.ne_of_lt (Nat.lt_of_lt_of_le own_b1_4.lt lr_bm73_30)
    have ne_b3_8_bm73_30 : b3_8 ≠ bm73_30 := Nat.ne_of_lt (Nat.lt_of_lt_of_le own_b3_8.lt lr_bm73_30)
    have ne_bo41_15_bm73_30 : bo41_15 ≠ bm73_30 := Nat.ne_of_lt (Nat.lt_of_lt_of_le own_bo41_15.lt lr_bm73_30)
    have ne_bm41_15_bm73_30 : bm41_15 ≠ bm73_30 := Nat.ne_of_lt (Nat.lt_of_lt_of_le own_bm41_15.lt lr_bm73_30)
    have ne_bo71_29_bm73_30 : bo71_29 ≠ bm73_30 := Nat.ne_of_lt (Nat.lt_of_lt_of_le own_bo71_29.lt lr_bm73_30)
    have ne_bm71_29_bm73_30 : bm71_29 ≠ bm73_30 := Nat.ne_of_lt (Nat.lt_of_lt_of_le own_bm71_29.lt lr_bm73_30)
    replace D_cn15_4 : Rd W30 (SF w [bo73_30, bm73_30, bo71_29, bm71_29, bo41_15, bm41_15, b3_8, b1_4]) (strsD ((objM ([Mb.mk (⟨#[98]⟩) (V.mk (3) (0) (⟨#[120]⟩) ([]) ([])), Mb.mk (⟨#[97]⟩) (V.mk (2) (1) (⟨#[]⟩) ([]) ([]))])).ns)) (.slice cn15_4a (((objM ([Mb.mk (⟨#[98]⟩) (V.mk (3) (0) (⟨#[120]⟩) ([]) ([])), Mb.mk (⟨#[97]⟩) (V.mk (2) (1) (⟨#[]⟩) ([]) ([]))])).ns).length) cn15_4c) := sf_more D_cn15_4 hk [bo73_30, bm73_30] (in_cons lr_bo73_30 (in_cons lr_bm73_30 in_nil))
    replace D_ci15_4 : Rd W30 (SF w [bo73_30, bm73_30, bo71_29, bm71_29, bo41_15, bm41_15, b3_8, b1_4]) (valsD ((objM ([Mb.mk (⟨#[98]⟩) (V.mk (3) (0) (⟨#[120]⟩) ([]) ([])), Mb.mk (⟨#[97]⟩) (V.mk (2) (1) (⟨#[]⟩) ([]) ([]))])).xs)) (.slice ci15_4a (((objM ([Mb.mk (⟨#[98]⟩) (V.mk (3) (0) (⟨#[120]⟩) ([]) ([])), Mb.mk (⟨#[97]⟩) (V.mk (2) (1) (⟨#[]⟩) ([]) ([]))])).xs).length) ci15_4c) := sf_more D_ci15_4 hk [bo73_30, bm73_30] (in_cons lr_bo73_30 (in_cons lr_bm73_30 in_nil))
    replace D_cn71_29 : Rd W30 (SF w [bo73_30, bm73_30, bo71_29, bm71_29, bo41_15, bm41_15, b3_8, b1_4]) (strsD ((objM ([Mb.mk (⟨#[98]⟩) (V.mk (3) (0) (⟨#[120]⟩) ([]) ([])), Mb.mk (⟨#[97]⟩) (V.mk (2) (1) (⟨#[]⟩) ([]) ([]))])).ns)) (.slice cn71_29a (((objM ([Mb.mk (⟨#[98]⟩) (V.mk (3) (0) (⟨#[120]⟩) ([]) ([])), Mb.mk (⟨#[97]⟩) (V.mk (2) (1) (⟨#[]⟩) ([]) ([]))])).ns).length) cn71_29c) := sf_more D_cn71_29 hk [bo73_30, bm73_30] (in_cons lr_bo73_30 (in_cons lr_bm73_30 in_nil))
    replace D_ci71_29 : Rd W30 (SF w [bo73_30, bm73_30, bo71_29, bm71_29, bo41_15, bm41_15, b3_8, b1_4]) (valsD ((objM ([Mb.mk (⟨#[98]⟩) (V.mk (3) (0) (⟨#[120]⟩) ([]) ([])), Mb.mk (⟨#[97]⟩) (V.mk (2) (1) (⟨#[]⟩) ([]) ([]))])).xs)) (.slice ci71_29a (((objM ([Mb.mk (⟨#[98]⟩) (V.mk (3) (0) (⟨#[120]⟩) ([]) ([])), Mb.mk (⟨#[97]⟩) (V.mk (2) (1) (⟨#[]⟩) ([]) ([]))])).xs).length) ci71_29c) := sf_more D_ci71_29 hk [bo73_30, bm73_30] (in_cons lr_bo73_30 (in_cons lr_bm73_30 in_nil))
    replace D_cn73_30 : Rd W30 (SF w [bo73_30, bm73_30, bo71_29, bm71_29, bo41_15, bm41_15, b3_8, b1_4]) (strsD ((objM ([Mb.mk (⟨#[98]⟩) (V.mk (3) (0) (⟨#[120]⟩) ([]) ([])), Mb.mk (⟨#[97]⟩) (V.mk (2) (1) (⟨#[]⟩) ([]) ([]))])).ns)) (.slice cn73_30a (((objM ([Mb.mk (⟨#[98]⟩) (V.mk (3) (0) (⟨#[120]⟩) ([]) ([])), Mb.mk (⟨#[97]⟩) (V.mk (2) (1) (⟨#[]⟩) ([]) ([]))])).ns).length) cn73_30c) := pk_data kw (in_cons own_bo71_29.lt (in_cons own_bm71_29.lt (in_cons own_bo41_15.lt (in_cons own_bm41_15.lt (in_cons own_b3_8.lt (in_cons own_b1_4.lt in_nil)))))) D_cn73_30
    replace D_ci73_30 : Rd W30 (SF w [bo73_30, bm73_30, bo71_29, bm71_29, bo41_15, bm41_15, b3_8, b1_4]) (valsD ((objM ([Mb.mk (⟨#[98]⟩) (V.mk (3) (0) (⟨#[120]⟩) ([]) ([])), Mb.mk (⟨#[97]⟩) (V.mk (2) (1) (⟨#[]⟩) ([]) ([]))])).xs)) (.slice ci73_30a (((objM ([Mb.mk (⟨#[98]⟩) (V.mk (3) (0) (⟨#[120]⟩) ([]) ([])), Mb.mk (⟨#[97]⟩) (V.mk (2) (1) (⟨#[]⟩) ([]) ([]))])).xs).length) ci73_30c) := pk_data kw (in_cons own_bo71_29.lt (in_cons own_bm71_29.lt (in_cons own_bo41_15.lt (in_cons own_bm41_15.lt (in_cons own_b3_8.lt (in_cons own_b1_4.lt in_nil)))))) D_ci73_30
    have own_bo73_30 : Own W30 bo73_30 [(.int .u8 ((objM ([Mb.mk (⟨#[98]⟩) (V.mk (3) (0) (⟨#[120]⟩) ([]) ([])), Mb.mk (⟨#[97]⟩) (V.mk (2) (1) (⟨#[]⟩) ([]) ([]))])).k)), (.int .i64 ((objM ([Mb.mk (⟨#[98]⟩) (V.mk (3) (0) (⟨#[120]⟩) ([]) ([])), Mb.mk (⟨#[97]⟩) (V.mk (2) (1) (⟨#[]⟩) ([]) ([]))])).n)), (.string ((objM ([Mb.mk (⟨#[98]⟩) (V.mk (3) (0) (⟨#[120]⟩) ([]) ([])), Mb.mk (⟨#[97]⟩) (V.mk (2) (1) (⟨#[]⟩) ([]) ([]))])).t)), (.slice cn73_30a (((objM ([Mb.mk (⟨#[98]⟩) (V.mk (3) (0) (⟨#[120]⟩) ([]) ([])), Mb.mk (⟨#[97]⟩) (V.mk (2) (1) (⟨#[]⟩) ([]) ([]))])).ns).length) cn73_30c), (.slice ci73_30a (((objM ([Mb.mk (⟨#[98]⟩) (V.mk (3) (0) (⟨#[120]⟩) ([]) ([])), Mb.mk (⟨#[97]⟩) (V.mk (2) (1) (⟨#[]⟩) ([]) ([]))])).xs).length) ci73_30c), (.map (some bm73_30)), (.int .i64 (0))] 74 := own_bo73_30
    have own_bm73_30 : OwnM W30 bm73_30 ([]) := own_bm73_30
    replace own_b1_4 := own_b1_4.ext hk
    replace own_b3_8 := own_b3_8.ext hk
    replace own_bo41_15 := own_bo41_15.ext hk
    replace own_bm41_15 := own_bm41_15.ext hk
    replace own_bo71_29 := own_bo71_29.ext hk
    replace own_bm71_29 := own_bm71_29.ext hk
    replace kw := kw.x hk
    clear hR hk hg hP lr_bo73_30 lr_bm73_30
    refine tail_reg 2 All y30 zz30 st_tr trivial rfl ?_
    refine .i (sp_assign (hbs rfl e71)) ?_
    refine .i (sp_assign (hbs rfl e73)) ?_
    refine .done ⟨by kernel_rfl, fun a31 g W31 y31 zz31 hk hg hV hR hP => ?_⟩
    refine tail_nil ?_
    show runTail _ _ _ _ _ _
    obtain ⟨e7, e6, -⟩ := hV
    replace D_cn71_29 := D_cn71_29.ext hk
    replace D_ci71_29 := D_ci71_29.ext hk
    replace D_cn73_30 := D_cn73_30.ext hk
    replace D_ci73_30 := D_ci73_30.ext hk
    have e6 : sl a31 6 = (.pointer (some ⟨bo71_29, 0, none⟩)) := e6
    have e7 : sl a31 7 = (.pointer (some ⟨bo73_30, 0, none⟩)) := e7
    replace own_b1_4 := own_b1_4.ext hk
    replace own_b3_8 := own_b3_8.ext hk
    replace own_bo41_15 := own_bo41_15.ext hk
    replace own_bm41_15 := own_bm41_15.ext hk
    replace own_bo71_29 := own_bo71_29.ext hk
    replace own_bm71_29 := own_bm71_29.ext hk
    replace own_bo73_30 := own_bo73_30.ext hk
    replace own_bm73_30 := own_bm73_30.ext hk
    replace kw := kw.x hk
    clear hR hk hg hP
    refine tail_nil (hK28 _ _ ?_)
    refine wp_seq_k fun K32 hK32 => ?_
    refine wp_reg (fun k => k ∉ [bo71_29, bm71_29]) (Ψ := fun W => Own W bo71_29 [(.int .u8 ((objM ([Mb.mk (⟨#[98]⟩) (V.mk (3) (0) (⟨#[120]⟩) ([]) ([])), Mb.mk (⟨#[97]⟩) (V.mk (2) (1) (⟨#[]⟩) ([]) ([]))])).k)), (.int .i64 ((objM ([Mb.mk (⟨#[98]⟩) (V.mk (3) (0) (⟨#[120]⟩) ([]) ([])), Mb.mk (⟨#[97]⟩) (V.mk (2) (1) (⟨#[]⟩) ([]) ([]))])).n)), (.string ((objM ([Mb.mk (⟨#[98]⟩) (V.mk (3) (0) (⟨#[120]⟩) ([]) ([])), Mb.mk (⟨#[97]⟩) (V.mk (2) (1) (⟨#[]⟩) ([]) ([]))])).t)), (.slice cn71_29a (((objM ([Mb.mk (⟨#[98]⟩) (V.mk (3) (0) (⟨#[120]⟩) ([]) ([])), Mb.mk (⟨#[97]⟩) (V.mk (2) (1) (⟨#[]⟩) ([]) ([]))])).ns).length) cn71_29c), (.slice ci71_29a (((objM ([Mb.mk (⟨#[98]⟩) (V.mk (3) (0) (⟨#[120]⟩) ([]) ([])), Mb.mk (⟨#[97]⟩) (V.mk (2) (1) (⟨#[]⟩) ([]) ([]))])).xs).length) ci71_29c), (.map (some bm71_29)), (.int .i64 (0))] 74 ∧ OwnM W bm71_29 ([])) mixed y31 zz31 (stE_and stE_own stE_ownM) ⟨own_bo71_29, own_bm71_29⟩ ?_
    refine .i (sp_move (hbs rfl e6)) ?_
    refine .callL4 (φ1 := Is (.pointer (some ⟨bo71_29, 0, none⟩))) (φ2 := Is (.string (⟨#[97]⟩))) (φ3 := Is (.int .i64 (2))) (φ4 := Is (.int .i64 (9))) (φ := Is (.int .i64 (if tkB (objM ([Mb.mk (⟨#[98]⟩) (V.mk (3) (0) (⟨#[120]⟩) ([]) ([])), Mb.mk (⟨#[97]⟩) (V.mk (2) (1) (⟨#[]⟩) ([]) ([]))])) 0 ⟨#[97]⟩ (numE 2 9) then numV 2 9 (getV (objM ([Mb.mk (⟨#[98]⟩) (V.mk (3) (0) (⟨#[120]⟩) ([]) ([])), Mb.mk (⟨#[97]⟩) (V.mk (2) (1) (⟨#[]⟩) ([]) ([]))])) ⟨#[97]⟩) else 0))) (Ψ' := fun W => Own W bo71_29 [(.int .u8 ((objM ([Mb.mk (⟨#[98]⟩) (V.mk (3) (0) (⟨#[120]⟩) ([]) ([])), Mb.mk (⟨#[97]⟩) (V.mk (2) (1) (⟨#[]⟩) ([]) ([]))])).k)), (.int .i64 ((objM ([Mb.mk (⟨#[98]⟩) (V.mk (3) (0) (⟨#[120]⟩) ([]) ([])), Mb.mk (⟨#[97]⟩) (V.mk (2) (1) (⟨#[]⟩) ([]) ([]))])).n)), (.string ((objM ([Mb.mk (⟨#[98]⟩) (V.mk (3) (0) (⟨#[120]⟩) ([]) ([])), Mb.mk (⟨#[97]⟩) (V.mk (2) (1) (⟨#[]⟩) ([]) ([]))])).t)), (.slice cn71_29a (((objM ([Mb.mk (⟨#[98]⟩) (V.mk (3) (0) (⟨#[120]⟩) ([]) ([])), Mb.mk (⟨#[97]⟩) (V.mk (2) (1) (⟨#[]⟩) ([]) ([]))])).ns).length) cn71_29c), (.slice ci71_29a (((objM ([Mb.mk (⟨#[98]⟩) (V.mk (3) (0) (⟨#[120]⟩) ([]) ([])), Mb.mk (⟨#[97]⟩) (V.mk (2) (1) (⟨#[]⟩) ([]) ([]))])).xs).length) ci71_29c), (.map (some bm71_29)), (.int .i64 (tkE (objM ([Mb.mk (⟨#[98]⟩) (V.mk (3) (0) (⟨#[120]⟩) ([]) ([])), Mb.mk (⟨#[97]⟩) (V.mk (2) (1) (⟨#[]⟩) ([]) ([]))])) 0 ⟨#[97]⟩ (numE 2 9)))] 74 ∧ OwnM W bm71_29 (tkA (objM ([Mb.mk (⟨#[98]⟩) (V.mk (3) (0) (⟨#[120]⟩) ([]) ([])), Mb.mk (⟨#[97]⟩) (V.mk (2) (1) (⟨#[]⟩) ([]) ([]))])) ([]) 0 ⟨#[97]⟩ (numE 2 9))) ent44 (hlc rfl) Has.cst Has.cst Has.cst (st_is _) (stE_and stE_own stE_ownM) (fun g u1 u2 u3 u4 W hk hg h1 h2 h3 h4 hP => by have h1 : u1 = _ := h1; subst u1; have h2 : u2 = _ := h2; subst u2; have h3 : u3 = _ := h3; subst u3; have h4 : u4 = _ := h4; subst u4; exact (Num_ok ((objM ([Mb.mk (⟨#[98]⟩) (V.mk (3) (0) (⟨#[120]⟩) ([]) ([])), Mb.mk (⟨#[97]⟩) (V.mk (2) (1) (⟨#[]⟩) ([]) ([]))]))) ([]) (0) (AB.nil.mono (by omega)) (Nat.le_of_ble_eq_true (by kernel_rfl)) tb71_29 ⟨#[97]⟩ 2 9 W _ _ _ _ _ (fun b o h => h.2.1) (sf_notin (by simp)) ne_bo71_29_bm71_29 (sf_keepL D_cn71_29 hk (by simp)) (sf_keepL D_ci71_29 hk (by simp)) hP.1 hP.2)) ?_
    refine .done ⟨by kernel_rfl, fun a33 g W33 y33 zz33 hk hg hV hR hP => ?_⟩
    obtain ⟨e75, -, -⟩ := hV
    replace e6 := (hR 6 rfl).trans e6
    replace e7 := (hR 7 rfl).trans e7
    replace e75 := e75.q
    replace D_cn71_29 := sf_keepL D_cn71_29 hk (by simp)
    replace D_ci71_29 := sf_keepL D_ci71_29 hk (by simp)
    replace D_cn73_30 := sf_keepL D_cn73_30 hk (by simp)
    replace D_ci73_30 := sf_keepL D_ci73_30 hk (by simp)
    replace own_b1_4 := own_keepL own_b1_4 hk (by simp [ne_b1_4_bo71_29, ne_b1_4_bm71_29])
    replace own_b3_8 := own_keepL own_b3_8 hk (by simp [ne_b3_8_bo71_29, ne_b3_8_bm71_29])
    replace own_bo41_15 := own_keepL own_bo41_15 hk (by simp [ne_bo41_15_bo71_29, ne_bo41_15_bm71_29])
    replace own_bm41_15 := ownM_keepL own_bm41_15 hk (by simp [ne_bm41_15_bo71_29, ne_bm41_15_bm71_29])
    replace own_bo73_30 := own_keepL own_bo73_30 hk (by simp [ne_bo71_29_bo73_30.symm, ne_bm71_29_bo73_30.symm])
    replace own_bm73_30 := ownM_keepL own_bm73_30 hk (by simp [ne_bo71_29_bm73_30.symm, ne_bm71_29_bm73_30.symm])
    obtain ⟨own_bo71_29, own_bm71_29⟩ := hP
    replace own_bo71_29 : Own W33 bo71_29 [(.int .u8 ((objM ([Mb.mk (⟨#[98]⟩) (V.mk (3) (0) (⟨#[120]⟩) ([]) ([])), Mb.mk (⟨#[97]⟩) (V.mk (2) (1) (⟨#[]⟩) ([]) ([]))])).k)), (.int .i64 ((objM ([Mb.mk (⟨#[98]⟩) (V.mk (3) (0) (⟨#[120]⟩) ([]) ([])), Mb.mk (⟨#[97]⟩) (V.mk (2) (1) (⟨#[]⟩) ([]) ([]))])).n)), (.string ((objM ([Mb.mk (⟨#[98]⟩) (V.mk (3) (0) (⟨#[120]⟩) ([]) ([])), Mb.mk (⟨#[97]⟩) (V.mk (2) (1) (⟨#[]⟩) ([]) ([]))])).t)), (.slice cn71_29a (((objM ([Mb.mk (⟨#[98]⟩) (V.mk (3) (0) (⟨#[120]⟩) ([]) ([])), Mb.mk (⟨#[97]⟩) (V.mk (2) (1) (⟨#[]⟩) ([]) ([]))])).ns).length) cn71_29c), (.slice ci71_29a (((objM ([Mb.mk (⟨#[98]⟩) (V.mk (3) (0) (⟨#[120]⟩) ([]) ([])), Mb.mk (⟨#[97]⟩) (V.mk (2) (1) (⟨#[]⟩) ([]) ([]))])).xs).length) ci71_29c), (.map (some bm71_29)), (.int .i64 (tkE (objM ([Mb.mk (⟨#[98]⟩) (V.mk (3) (0) (⟨#[120]⟩) ([]) ([])), Mb.mk (⟨#[97]⟩) (V.mk (2) (1) (⟨#[]⟩) ([]) ([]))])) 0 ⟨#[97]⟩ (numE 2 9)))] 74 := own_bo71_29
    replace own_bm71_29 : OwnM W33 bm71_29 (tkA (objM ([Mb.mk (⟨#[98]⟩) (V.mk (3) (0) (⟨#[120]⟩) ([]) ([])), Mb.mk (⟨#[97]⟩) (V.mk (2) (1) (⟨#[]⟩) ([]) ([]))])) ([]) 0 ⟨#[97]⟩ (numE 2 9)) := own_bm71_29
    replace kw := keeps_L kw hk (in_cons (.inl lo_bo71_29) (in_cons (.inl lo_bm71_29) in_nil))
    clear hR hk hg
    refine tail_reg 2 All y33 zz33 st_tr trivial rfl ?_
    refine .i (sp_eql (hbs rfl e75) Has.cst) ?_
    refine .i (sp_move (hlc rfl)) ?_
    refine .done ⟨by kernel_rfl, fun a34 g W34 y34 zz34 hk hg hV hR hP => ?_⟩
    refine tail_nil ?_
    show runTail _ _ _ _ _ _
    obtain ⟨e77, -, -⟩ := hV
    replace e6 := (hR 6 rfl).trans e6
    replace e7 := (hR 7 rfl).trans e7
    replace D_cn71_29 := D_cn71_29.ext hk
    replace D_ci71_29 := D_ci71_29.ext hk
    replace D_cn73_30 := D_cn73_30.ext hk
    replace D_ci73_30 := D_ci73_30.ext hk
    replace e77 := e77.q
    replace own_b1_4 := own_b1_4.ext hk
    replace own_b3_8 := own_b3_8.ext hk
    replace own_bo41_15 := own_bo41_15.ext hk
    replace own_bm41_15 := own_bm41_15.ext hk
    replace own_bo71_29 := own_bo71_29.ext hk
    replace own_bm71_29 := own_bm71_29.ext hk
    replace own_bo73_30 := own_bo73_30.ext hk
    replace own_bm73_30 := own_bm73_30.ext hk
    replace kw := kw.x hk
    clear hR hk hg hP
    refine tail_ung 3 77 true rfl 3 rfl (e77.trans (congrArg Value.bool (by kernel_rfl))) ?_
    refine tail_reg 5 All y34 zz34 st_tr trivial rfl ?_
    refine .i (sp_move (hbs rfl e6)) ?_
    refine .i (v := (.int .i64 (errK ((objM ([Mb.mk (⟨#[98]⟩) (V.mk (3) (0) (⟨#[120]⟩) ([]) ([])), Mb.mk (⟨#[97]⟩) (V.mk (2) (1) (⟨#[]⟩) ([]) ([]))])).k) (tkE (objM ([Mb.mk (⟨#[98]⟩) (V.mk (3) (0) (⟨#[120]⟩) ([]) ([])), Mb.mk (⟨#[97]⟩) (V.mk (2) (1) (⟨#[]⟩) ([]) ([]))])) 0 ⟨#[97]⟩ (numE 2 9))))) (sp_call1 (φ1 := Is (.pointer (some ⟨bo71_29, 0, none⟩))) ent24 (hlc rfl) (fun g u1 W hk hgk h1 => by have h1 : u1 = _ := h1; subst u1; exact Err_ok _ _ _ _ _ _ _ W _ (own_bo71_29.ext hk))) ?_
    refine .i (sp_eql (hlc rfl) Has.cst) ?_
    refine .i (sp_and (hbs rfl e77) ((hlc rfl).toU)) ?_
    refine .i (sp_move (hlc rfl)) ?_
    refine .done ⟨by kernel_rfl, fun a35 g W35 y35 zz35 hk hg hV hR hP => ?_⟩
    refine tail_nil ?_
    show runTail _ _ _ _ _ _
    obtain ⟨e82, -, -, -, -, -⟩ := hV
    replace e6 := (hR 6 rfl).trans e6
    replace e7 := (hR 7 rfl).trans e7
    replace D_cn71_29 := D_cn71_29.ext hk
    replace D_ci71_29 := D_ci71_29.ext hk
    replace D_cn73_30 := D_cn73_30.ext hk
    replace D_ci73_30 := D_ci73_30.ext hk
    replace e82 := e82.q
    replace own_b1_4 := own_b1_4.ext hk
    replace own_b3_8 := own_b3_8.ext hk
    replace own_bo41_15 := own_bo41_15.ext hk
    replace own_bm41_15 := own_bm41_15.ext hk
    replace own_bo71_29 := own_bo71_29.ext hk
    replace own_bm71_29 := own_bm71_29.ext hk
    replace own_bo73_30 := own_bo73_30.ext hk
    replace own_bm73_30 := own_bm73_30.ext hk
    replace kw := kw.x hk
    clear hR hk hg hP
    refine tail_ung 8 82 true rfl 3 rfl (e82.trans (congrArg Value.bool (by kernel_rfl))) ?_
    refine tail_reg 2 (fun k => k ∉ [bo71_29, bm71_29]) (Ψ := fun W => Own W bo71_29 [(.int .u8 ((objM ([Mb.mk (⟨#[98]⟩) (V.mk (3) (0) (⟨#[120]⟩) ([]) ([])), Mb.mk (⟨#[97]⟩) (V.mk (2) (1) (⟨#[]⟩) ([]) ([]))])).k)), (.int .i64 ((objM ([Mb.mk (⟨#[98]⟩) (V.mk (3) (0) (⟨#[120]⟩) ([]) ([])), Mb.mk (⟨#[97]⟩) (V.mk (2) (1) (⟨#[]⟩) ([]) ([]))])).n)), (.string ((objM ([Mb.mk (⟨#[98]⟩) (V.mk (3) (0) (⟨#[120]⟩) ([]) ([])), Mb.mk (⟨#[97]⟩) (V.mk (2) (1) (⟨#[]⟩) ([]) ([]))])).t)), (.slice cn71_29a (((objM ([Mb.mk (⟨#[98]⟩) (V.mk (3) (0) (⟨#[120]⟩) ([]) ([])), Mb.mk (⟨#[97]⟩) (V.mk (2) (1) (⟨#[]⟩) ([]) ([]))])).ns).length) cn71_29c), (.slice ci71_29a (((objM ([Mb.mk (⟨#[98]⟩) (V.mk (3) (0) (⟨#[120]⟩) ([]) ([])), Mb.mk (⟨#[97]⟩) (V.mk (2) (1) (⟨#[]⟩) ([]) ([]))])).xs).length) ci71_29c), (.map (some bm71_29)), (.int .i64 (tkE (objM ([Mb.mk (⟨#[98]⟩) (V.mk (3) (0) (⟨#[120]⟩) ([]) ([])), Mb.mk (⟨#[97]⟩) (V.mk (2) (1) (⟨#[]⟩) ([]) ([]))])) 0 ⟨#[97]⟩ (numE 2 9)))] 74 ∧ OwnM W bm71_29 (tkA (objM ([Mb.mk (⟨#[98]⟩) (V.mk (3) (0) (⟨#[120]⟩) ([]) ([])), Mb.mk (⟨#[97]⟩) (V.mk (2) (1) (⟨#[]⟩) ([]) ([]))])) ([]) 0 ⟨#[97]⟩ (numE 2 9))) y35 zz35 (stE_and stE_own stE_ownM) ⟨own_bo71_29, own_bm71_29⟩ rfl ?_
    refine .i (sp_move (hbs rfl e6)) ?_
    refine .callL2 (φ1 := Is (.pointer (some ⟨bo71_29, 0, none⟩))) (φ2 := Is (.string (⟨#[98]⟩))) (φ := Is (.string (if tkB (objM ([Mb.mk (⟨#[98]⟩) (V.mk (3) (0) (⟨#[120]⟩) ([]) ([])), Mb.mk (⟨#[97]⟩) (V.mk (2) (1) (⟨#[]⟩) ([]) ([]))])) (tkE (objM ([Mb.mk (⟨#[98]⟩) (V.mk (3) (0) (⟨#[120]⟩) ([]) ([])), Mb.mk (⟨#[97]⟩) (V.mk (2) (1) (⟨#[]⟩) ([]) ([]))])) 0 ⟨#[97]⟩ (numE 2 9)) ⟨#[98]⟩ textE then textV (getV (objM ([Mb.mk (⟨#[98]⟩) (V.mk (3) (0) (⟨#[120]⟩) ([]) ([])), Mb.mk (⟨#[97]⟩) (V.mk (2) (1) (⟨#[]⟩) ([]) ([]))])) ⟨#[98]⟩) else ⟨#[]⟩))) (Ψ' := fun W => Own W bo71_29 [(.int .u8 ((objM ([Mb.mk (⟨#[98]⟩) (V.mk (3) (0) (⟨#[120]⟩) ([]) ([])), Mb.mk (⟨#[97]⟩) (V.mk (2) (1) (⟨#[]⟩) ([]) ([]))])).k)), (.int .i64 ((objM ([Mb.mk (⟨#[98]⟩) (V.mk (3) (0) (⟨#[120]⟩) ([]) ([])), Mb.mk (⟨#[97]⟩) (V.mk (2) (1) (⟨#[]⟩) ([]) ([]))])).n)), (.string ((objM ([Mb.mk (⟨#[98]⟩) (V.mk (3) (0) (⟨#[120]⟩) ([]) ([])), Mb.mk (⟨#[97]⟩) (V.mk (2) (1) (⟨#[]⟩) ([]) ([]))])).t)), (.slice cn71_29a (((objM ([Mb.mk (⟨#[98]⟩) (V.mk (3) (0) (⟨#[120]⟩) ([]) ([])), Mb.mk (⟨#[97]⟩) (V.mk (2) (1) (⟨#[]⟩) ([]) ([]))])).ns).length) cn71_29c), (.slice ci71_29a (((objM ([Mb.mk (⟨#[98]⟩) (V.mk (3) (0) (⟨#[120]⟩) ([]) ([])), Mb.mk (⟨#[97]⟩) (V.mk (2) (1) (⟨#[]⟩) ([]) ([]))])).xs).length) ci71_29c), (.map (some bm71_29)), (.int .i64 (tkE (objM ([Mb.mk (⟨#[98]⟩) (V.mk (3) (0) (⟨#[120]⟩) ([]) ([])), Mb.mk (⟨#[97]⟩) (V.mk (2) (1) (⟨#[]⟩) ([]) ([]))])) (tkE (objM ([Mb.mk (⟨#[98]⟩) (V.mk (3) (0) (⟨#[120]⟩) ([]) ([])), Mb.mk (⟨#[97]⟩) (V.mk (2) (1) (⟨#[]⟩) ([]) ([]))])) 0 ⟨#[97]⟩ (numE 2 9)) ⟨#[98]⟩ textE))] 74 ∧ OwnM W bm71_29 (tkA (objM ([Mb.mk (⟨#[98]⟩) (V.mk (3) (0) (⟨#[120]⟩) ([]) ([])), Mb.mk (⟨#[97]⟩) (V.mk (2) (1) (⟨#[]⟩) ([]) ([]))])) (tkA (objM ([Mb.mk (⟨#[98]⟩) (V.mk (3) (0) (⟨#[120]⟩) ([]) ([])), Mb.mk (⟨#[97]⟩) (V.mk (2) (1) (⟨#[]⟩) ([]) ([]))])) ([]) 0 ⟨#[97]⟩ (numE 2 9)) (tkE (objM ([Mb.mk (⟨#[98]⟩) (V.mk (3) (0) (⟨#[120]⟩) ([]) ([])), Mb.mk (⟨#[97]⟩) (V.mk (2) (1) (⟨#[]⟩) ([]) ([]))])) 0 ⟨#[97]⟩ (numE 2 9)) ⟨#[98]⟩ textE)) ent43 (hlc rfl) Has.cst (st_is _) (stE_and stE_own stE_ownM) (fun g u1 u2 W hk hg h1 h2 hP => by have h1 : u1 = _ := h1; subst u1; have h2 : u2 = _ := h2; subst u2; exact (Text_ok ((objM ([Mb.mk (⟨#[98]⟩) (V.mk (3) (0) (⟨#[120]⟩) ([]) ([])), Mb.mk (⟨#[97]⟩) (V.mk (2) (1) (⟨#[]⟩) ([]) ([]))]))) (tkA (objM ([Mb.mk (⟨#[98]⟩) (V.mk (3) (0) (⟨#[120]⟩) ([]) ([])), Mb.mk (⟨#[97]⟩) (V.mk (2) (1) (⟨#[]⟩) ([]) ([]))])) ([]) 0 ⟨#[97]⟩ (numE 2 9)) (tkE (objM ([Mb.mk (⟨#[98]⟩) (V.mk (3) (0) (⟨#[120]⟩) ([]) ([])), Mb.mk (⟨#[97]⟩) (V.mk (2) (1) (⟨#[]⟩) ([]) ([]))])) 0 ⟨#[97]⟩ (numE 2 9)) (AB.nil.tk.mono (by omega)) (Nat.le_of_ble_eq_true (by kernel_rfl)) tb71_29 ⟨#[98]⟩ W _ _ _ _ _ (fun b o h => h.2.1) (sf_notin (by simp)) ne_bo71_29_bm71_29 (sf_keepL D_cn71_29 hk (by simp)) (sf_keepL D_ci71_29 hk (by simp)) hP.1 hP.2)) ?_
    refine .done ⟨by kernel_rfl, fun a36 g W36 y36 zz36 hk hg hV hR hP => ?_⟩
    refine tail_nil ?_
    show runTail _ _ _ _ _ _
    obtain ⟨e84, -, -⟩ := hV
    replace e7 := (hR 7 rfl).trans e7
    replace e82 := (hR 82 rfl).trans e82
    replace e84 := e84.q
    replace D_cn71_29 := sf_keepL D_cn71_29 hk (by simp)
    replace D_ci71_29 := sf_keepL D_ci71_29 hk (by simp)
    replace D_cn73_30 := sf_keepL D_cn73_30 hk (by simp)
    replace D_ci73_30 := sf_keepL D_ci73_30 hk (by simp)
    replace own_b1_4 := own_keepL own_b1_4 hk (by simp [ne_b1_4_bo71_29, ne_b1_4_bm71_29])
    replace own_b3_8 := own_keepL own_b3_8 hk (by simp [ne_b3_8_bo71_29, ne_b3_8_bm71_29])
    replace own_bo41_15 := own_keepL own_bo41_15 hk (by simp [ne_bo41_15_bo71_29, ne_bo41_15_bm71_29])
    replace own_bm41_15 := ownM_keepL own_bm41_15 hk (by simp [ne_bm41_15_bo71_29, ne_bm41_15_bm71_29])
    replace own_bo73_30 := own_keepL own_bo73_30 hk (by simp [ne_bo71_29_bo73_30.symm, ne_bm71_29_bo73_30.symm])
    replace own_bm73_30 := ownM_keepL own_bm73_30 hk (by simp [ne_bo71_29_bm73_30.symm, ne_bm71_29_bm73_30.symm])
    obtain ⟨own_bo71_29, own_bm71_29⟩ := hP
    replace own_bo71_29 : Own W36 bo71_29 [(.int .u8 ((objM ([Mb.mk (⟨#[98]⟩) (V.mk (3) (0) (⟨#[120]⟩) ([]) ([])), Mb.mk (⟨#[97]⟩) (V.mk (2) (1) (⟨#[]⟩) ([]) ([]))])).k)), (.int .i64 ((objM ([Mb.mk (⟨#[98]⟩) (V.mk (3) (0) (⟨#[120]⟩) ([]) ([])), Mb.mk (⟨#[97]⟩) (V.mk (2) (1) (⟨#[]⟩) ([]) ([]))])).n)), (.string ((objM ([Mb.mk (⟨#[98]⟩) (V.mk (3) (0) (⟨#[120]⟩) ([]) ([])), Mb.mk (⟨#[97]⟩) (V.mk (2) (1) (⟨#[]⟩) ([]) ([]))])).t)), (.slice cn71_29a (((objM ([Mb.mk (⟨#[98]⟩) (V.mk (3) (0) (⟨#[120]⟩) ([]) ([])), Mb.mk (⟨#[97]⟩) (V.mk (2) (1) (⟨#[]⟩) ([]) ([]))])).ns).length) cn71_29c), (.slice ci71_29a (((objM ([Mb.mk (⟨#[98]⟩) (V.mk (3) (0) (⟨#[120]⟩) ([]) ([])), Mb.mk (⟨#[97]⟩) (V.mk (2) (1) (⟨#[]⟩) ([]) ([]))])).xs).length) ci71_29c), (.map (some bm71_29)), (.int .i64 (tkE (objM ([Mb.mk (⟨#[98]⟩) (V.mk (3) (0) (⟨#[120]⟩) ([]) ([])), Mb.mk (⟨#[97]⟩) (V.mk (2) (1) (⟨#[]⟩) ([]) ([]))])) (tkE (objM ([Mb.mk (⟨#[98]⟩) (V.mk (3) (0) (⟨#[120]⟩) ([]) ([])), Mb.mk (⟨#[97]⟩) (V.mk (2) (1) (⟨#[]⟩) ([]) ([]))])) 0 ⟨#[97]⟩ (numE 2 9)) ⟨#[98]⟩ textE))] 74 := own_bo71_29
    replace own_bm71_29 : OwnM W36 bm71_29 (tkA (objM ([Mb.mk (⟨#[98]⟩) (V.mk (3) (0) (⟨#[120]⟩) ([]) ([])), Mb.mk (⟨#[97]⟩) (V.mk (2) (1) (⟨#[]⟩) ([]) ([]))])) (tkA (objM ([Mb.mk (⟨#[98]⟩) (V.mk (3) (0) (⟨#[120]⟩) ([]) ([])), Mb.mk (⟨#[97]⟩) (V.mk (2) (1) (⟨#[]⟩) ([]) ([]))])) ([]) 0 ⟨#[97]⟩ (numE 2 9)) (tkE (objM ([Mb.mk (⟨#[98]⟩) (V.mk (3) (0) (⟨#[120]⟩) ([]) ([])), Mb.mk (⟨#[97]⟩) (V.mk (2) (1) (⟨#[]⟩) ([]) ([]))])) 0 ⟨#[97]⟩ (numE 2 9)) ⟨#[98]⟩ textE) := own_bm71_29
    replace kw := keeps_L kw hk (in_cons (.inl lo_bo71_29) (in_cons (.inl lo_bm71_29) in_nil))
    clear hR hk hg
    refine tail_reg 3 All y36 zz36 st_tr trivial rfl ?_
    refine .i (sp_sEql (hbs rfl e84) Has.cst) ?_
    refine .i (sp_and (hbs rfl e82) ((hlc rfl).toU)) ?_
    refine .i (sp_move (hlc rfl)) ?_
    refine .done ⟨by kernel_rfl, fun a37 g W37 y37 zz37 hk hg hV hR hP => ?_⟩
    refine tail_nil ?_
    show runTail _ _ _ _ _ _
    obtain ⟨e87, -, -, -⟩ := hV
    replace e7 := (hR 7 rfl).trans e7
    replace D_cn73_30 := D_cn73_30.ext hk
    replace D_ci73_30 := D_ci73_30.ext hk
    replace e87 := e87.q
    replace own_b1_4 := own_b1_4.ext hk
    replace own_b3_8 := own_b3_8.ext hk
    replace own_bo41_15 := own_bo41_15.ext hk
    replace own_bm41_15 := own_bm41_15.ext hk
    replace own_bo71_29 := own_bo71_29.ext hk
    replace own_bm71_29 := own_bm71_29.ext hk
    replace own_bo73_30 := own_bo73_30.ext hk
    replace own_bm73_30 := own_bm73_30.ext hk
    replace kw := kw.x hk
    clear hR hk hg hP
    refine tail_ung 13 87 true rfl 3 rfl (e87.trans (congrArg Value.bool (by kernel_rfl))) ?_
    refine tail_reg 2 (fun k => k ∉ [bo73_30, bm73_30]) (Ψ := fun W => Own W bo73_30 [(.int .u8 ((objM ([Mb.mk (⟨#[98]⟩) (V.mk (3) (0) (⟨#[120]⟩) ([]) ([])), Mb.mk (⟨#[97]⟩) (V.mk (2) (1) (⟨#[]⟩) ([]) ([]))])).k)), (.int .i64 ((objM ([Mb.mk (⟨#[98]⟩) (V.mk (3) (0) (⟨#[120]⟩) ([]) ([])), Mb.mk (⟨#[97]⟩) (V.mk (2) (1) (⟨#[]⟩) ([]) ([]))])).n)), (.string ((objM ([Mb.mk (⟨#[98]⟩) (V.mk (3) (0) (⟨#[120]⟩) ([]) ([])), Mb.mk (⟨#[97]⟩) (V.mk (2) (1) (⟨#[]⟩) ([]) ([]))])).t)), (.slice cn73_30a (((objM ([Mb.mk (⟨#[98]⟩) (V.mk (3) (0) (⟨#[120]⟩) ([]) ([])), Mb.mk (⟨#[97]⟩) (V.mk (2) (1) (⟨#[]⟩) ([]) ([]))])).ns).length) cn73_30c), (.slice ci73_30a (((objM ([Mb.mk (⟨#[98]⟩) (V.mk (3) (0) (⟨#[120]⟩) ([]) ([])), Mb.mk (⟨#[97]⟩) (V.mk (2) (1) (⟨#[]⟩) ([]) ([]))])).xs).length) ci73_30c), (.map (some bm73_30)), (.int .i64 (0))] 74 ∧ OwnM W bm73_30 ([])) y37 zz37 (stE_and stE_own stE_ownM) ⟨own_bo73_30, own_bm73_30⟩ rfl ?_
    refine .i (sp_move (hbs rfl e7)) ?_
    refine .callL2 (φ1 := Is (.pointer (some ⟨bo73_30, 0, none⟩))) (φ2 := Is (.string (⟨#[97]⟩))) (φ := Is (.bool (if tkB (objM ([Mb.mk (⟨#[98]⟩) (V.mk (3) (0) (⟨#[120]⟩) ([]) ([])), Mb.mk (⟨#[97]⟩) (V.mk (2) (1) (⟨#[]⟩) ([]) ([]))])) 0 ⟨#[97]⟩ boolE then boolV (getV (objM ([Mb.mk (⟨#[98]⟩) (V.mk (3) (0) (⟨#[120]⟩) ([]) ([])), Mb.mk (⟨#[97]⟩) (V.mk (2) (1) (⟨#[]⟩) ([]) ([]))])) ⟨#[97]⟩) else false))) (Ψ' := fun W => Own W bo73_30 [(.int .u8 ((objM ([Mb.mk (⟨#[98]⟩) (V.mk (3) (0) (⟨#[120]⟩) ([]) ([])), Mb.mk (⟨#[97]⟩) (V.mk (2) (1) (⟨#[]⟩) ([]) ([]))])).k)), (.int .i64 ((objM ([Mb.mk (⟨#[98]⟩) (V.mk (3) (0) (⟨#[120]⟩) ([]) ([])), Mb.mk (⟨#[97]⟩) (V.mk (2) (1) (⟨#[]⟩) ([]) ([]))])).n)), (.string ((objM ([Mb.mk (⟨#[98]⟩) (V.mk (3) (0) (⟨#[120]⟩) ([]) ([])), Mb.mk (⟨#[97]⟩) (V.mk (2) (1) (⟨#[]⟩) ([]) ([]))])).t)), (.slice cn73_30a (((objM ([Mb.mk (⟨#[98]⟩) (V.mk (3) (0) (⟨#[120]⟩) ([]) ([])), Mb.mk (⟨#[97]⟩) (V.mk (2) (1) (⟨#[]⟩) ([]) ([]))])).ns).length) cn73_30c), (.slice ci73_30a (((objM ([Mb.mk (⟨#[98]⟩) (V.mk (3) (0) (⟨#[120]⟩) ([]) ([])), Mb.mk (⟨#[97]⟩) (V.mk (2) (1) (⟨#[]⟩) ([]) ([]))])).xs).length) ci73_30c), (.map (some bm73_30)), (.int .i64 (tkE (objM ([Mb.mk (⟨#[98]⟩) (V.mk (3) (0) (⟨#[120]⟩) ([]) ([])), Mb.mk (⟨#[97]⟩) (V.mk (2) (1) (⟨#[]⟩) ([]) ([]))])) 0 ⟨#[97]⟩ boolE))] 74 ∧ OwnM W bm73_30 (tkA (objM ([Mb.mk (⟨#[98]⟩) (V.mk (3) (0) (⟨#[120]⟩) ([]) ([])), Mb.mk (⟨#[97]⟩) (V.mk (2) (1) (⟨#[]⟩) ([]) ([]))])) ([]) 0 ⟨#[97]⟩ boolE)) ent45 (hlc rfl) Has.cst (st_is _) (stE_and stE_own stE_ownM) (fun g u1 u2 W hk hg h1 h2 hP => by have h1 : u1 = _ := h1; subst u1; have h2 : u2 = _ := h2; subst u2; exact (Bool_ok ((objM ([Mb.mk (⟨#[98]⟩) (V.mk (3) (0) (⟨#[120]⟩) ([]) ([])), Mb.mk (⟨#[97]⟩) (V.mk (2) (1) (⟨#[]⟩) ([]) ([]))]))) ([]) (0) (AB.nil.mono (by omega)) (Nat.le_of_ble_eq_true (by kernel_rfl)) tb73_30 ⟨#[97]⟩ W _ _ _ _ _ (fun b o h => h.2.1) (sf_notin (by simp)) ne_bo73_30_bm73_30 (sf_keepL D_cn73_30 hk (by simp)) (sf_keepL D_ci73_30 hk (by simp)) hP.1 hP.2)) ?_
    refine .done ⟨by kernel_rfl, fun a38 g W38 y38 zz38 hk hg hV hR hP => ?_⟩
    refine tail_nil ?_
    show runTail _ _ _ _ _ _
    obtain ⟨e89, -, -⟩ := hV
    replace e7 := (hR 7 rfl).trans e7
    replace e87 := (hR 87 rfl).trans e87
    replace e89 := e89.q
    replace D_cn73_30 := sf_keepL D_cn73_30 hk (by simp)
    replace D_ci73_30 := sf_keepL D_ci73_30 hk (by simp)
    replace own_b1_4 := own_keepL own_b1_4 hk (by simp [ne_b1_4_bo73_30, ne_b1_4_bm73_30])
    replace own_b3_8 := own_keepL own_b3_8 hk (by simp [ne_b3_8_bo73_30, ne_b3_8_bm73_30])
    replace own_bo41_15 := own_keepL own_bo41_15 hk (by simp [ne_bo41_15_bo73_30, ne_bo41_15_bm73_30])
    replace own_bm41_15 := ownM_keepL own_bm41_15 hk (by simp [ne_bm41_15_bo73_30, ne_bm41_15_bm73_30])
    replace own_bo71_29 := own_keepL own_bo71_29 hk (by simp [ne_bo71_29_bo73_30, ne_bo71_29_bm73_30])
    replace own_bm71_29 := ownM_keepL own_bm71_29 hk (by simp [ne_bm71_29_bo73_30, ne_bm71_29_bm73_30])
    obtain ⟨own_bo73_30, own_bm73_30⟩ := hP
    replace own_bo73_30 : Own W38 bo73_30 [(.int .u8 ((objM ([Mb.mk (⟨#[98]⟩) (V.mk (3) (0) (⟨#[120]⟩) ([]) ([])), Mb.mk (⟨#[97]⟩) (V.mk (2) (1) (⟨#[]⟩) ([]) ([]))])).k)), (.int .i64 ((objM ([Mb.mk (⟨#[98]⟩) (V.mk (3) (0) (⟨#[120]⟩) ([]) ([])), Mb.mk (⟨#[97]⟩) (V.mk (2) (1) (⟨#[]⟩) ([]) ([]))])).n)), (.string ((objM ([Mb.mk (⟨#[98]⟩) (V.mk (3) (0) (⟨#[120]⟩) ([]) ([])), Mb.mk (⟨#[97]⟩) (V.mk (2) (1) (⟨#[]⟩) ([]) ([]))])).t)), (.slice cn73_30a (((objM ([Mb.mk (⟨#[98]⟩) (V.mk (3) (0) (⟨#[120]⟩) ([]) ([])), Mb.mk (⟨#[97]⟩) (V.mk (2) (1) (⟨#[]⟩) ([]) ([]))])).ns).length) cn73_30c), (.slice ci73_30a (((objM ([Mb.mk (⟨#[98]⟩) (V.mk (3) (0) (⟨#[120]⟩) ([]) ([])), Mb.mk (⟨#[97]⟩) (V.mk (2) (1) (⟨#[]⟩) ([]) ([]))])).xs).length) ci73_30c), (.map (some bm73_30)), (.int .i64 (tkE (objM ([Mb.mk (⟨#[98]⟩) (V.mk (3) (0) (⟨#[120]⟩) ([]) ([])), Mb.mk (⟨#[97]⟩) (V.mk (2) (1) (⟨#[]⟩) ([]) ([]))])) 0 ⟨#[97]⟩ boolE))] 74 := own_bo73_30
    replace own_bm73_30 : OwnM W38 bm73_30 (tkA (objM ([Mb.mk (⟨#[98]⟩) (V.mk (3) (0) (⟨#[120]⟩) ([]) ([])), Mb.mk (⟨#[97]⟩) (V.mk (2) (1) (⟨#[]⟩) ([]) ([]))])) ([]) 0 ⟨#[97]⟩ boolE) := own_bm73_30
    replace kw := keeps_L kw hk (in_cons (.inl lo_bo73_30) (in_cons (.inl lo_bm73_30) in_nil))
    clear hR hk hg
    refine tail_reg 3 All y38 zz38 st_tr trivial rfl ?_
    refine .i (sp_not (hbs rfl e89)) ?_
    refine .i (sp_and (hbs rfl e87) ((hlc rfl).toU)) ?_
    refine .i (sp_move (hlc rfl)) ?_
    refine .done ⟨by kernel_rfl, fun a39 g W39 y39 zz39 hk hg hV hR hP => ?_⟩
    refine tail_nil ?_
    show runTail _ _ _ _ _ _
    obtain ⟨e92, -, -, -⟩ := hV
    replace e7 := (hR 7 rfl).trans e7
    replace D_cn73_30 := D_cn73_30.ext hk
    replace D_ci73_30 := D_ci73_30.ext hk
    replace e92 := e92.q
    replace own_b1_4 := own_b1_4.ext hk
    replace own_b3_8 := own_b3_8.ext hk
    replace own_bo41_15 := own_bo41_15.ext hk
    replace own_bm41_15 := own_bm41_15.ext hk
    replace own_bo71_29 := own_bo71_29.ext hk
    replace own_bm71_29 := own_bm71_29.ext hk
    replace own_bo73_30 := own_bo73_30.ext hk
    replace own_bm73_30 := own_bm73_30.ext hk
    replace kw := kw.x hk
    clear hR hk hg hP
    refine tail_ung 18 92 true rfl 3 rfl (e92.trans (congrArg Value.bool (by kernel_rfl))) ?_
    refine tail_reg 5 All y39 zz39 st_tr trivial rfl ?_
    refine .i (sp_move (hbs rfl e7)) ?_
    refine .i (v := (.int .i64 (errK ((objM ([Mb.mk (⟨#[98]⟩) (V.mk (3) (0) (⟨#[120]⟩) ([]) ([])), Mb.mk (⟨#[97]⟩) (V.mk (2) (1) (⟨#[]⟩) ([]) ([]))])).k) (tkE (objM ([Mb.mk (⟨#[98]⟩) (V.mk (3) (0) (⟨#[120]⟩) ([]) ([])), Mb.mk (⟨#[97]⟩) (V.mk (2) (1) (⟨#[]⟩) ([]) ([]))])) 0 ⟨#[97]⟩ boolE)))) (sp_call1 (φ1 := Is (.pointer (some ⟨bo73_30, 0, none⟩))) ent24 (hlc rfl) (fun g u1 W hk hgk h1 => by have h1 : u1 = _ := h1; subst u1; exact Err_ok _ _ _ _ _ _ _ W _ (own_bo73_30.ext hk))) ?_
    refine .i (sp_eql (hlc rfl) Has.cst) ?_
    refine .i (sp_and (hbs rfl e92) ((hlc rfl).toU)) ?_
    refine .i (sp_assign (hlc rfl)) ?_
    refine .done ⟨by kernel_rfl, fun a40 g W40 y40 zz40 hk hg hV hR hP => ?_⟩
    refine tail_nil ?_
    show runTail _ _ _ _ _ _
    obtain ⟨e0, -, -, -, -, -⟩ := hV
    replace D_cn73_30 := D_cn73_30.ext hk
    replace D_ci73_30 := D_ci73_30.ext hk
    replace e0 := e0.q
    replace own_b1_4 := own_b1_4.ext hk
    replace own_b3_8 := own_b3_8.ext hk
    replace own_bo41_15 := own_bo41_15.ext hk
    replace own_bm41_15 := own_bm41_15.ext hk
    replace own_bo71_29 := own_bo71_29.ext hk
    replace own_bm71_29 := own_bm71_29.ext hk
    replace own_bo73_30 := own_bo73_30.ext hk
    replace own_bm73_30 := own_bm73_30.ext hk
    replace kw := kw.x hk
    clear hR hk hg hP
    refine tail_nil (hK32 _ _ ?_)
    refine wp_ret ?_
    refine (show bodyPost Try.prog Try.f28 _ .ret _ _ from ret1 rfl zz40 e0 ⟨_, rfl, kw, ?_⟩)
    exact congrArg Value.bool (by kernel_rfl)
end Go.Proofs.Ytnobijngkpflcaa
namespace Go.Eng
theorem run_sameAddr_any {P : Program} {W : World} {a b : Addr} {ca cb : Array Value} {ta tb : TypeId} {fa fb : Nat × Nat} (ha : W.heap[a.block]? = some (.cells ca ta fa)) (hb : W.heap[b.block]? = some (.cells cb tb fb)) (hf : W.frozen? a = false) :
    ∃ r W', (sameAddr a b).run P W = .ok r W' ∧ Ext W W' := by
  by_cases hbl : a.block = b.block
  · exact ⟨a == b, W, by simp [sameAddr, hbl], .refl _ _⟩
  · by_cases hq : (mayBeOne a b).run P W = .ok true W
    · by_cases hfo : (Question.extern "sameAddr.stringBytes" 2).forced = true
      · exact ⟨false, W, by simp [sameAddr, hbl, hf, noView, viewAt, World.shape?, ha, hb, hq, hfo], .refl _ _⟩
      · exact ⟨_, W.drew, by simp [sameAddr, hbl, hf, noView, viewAt, World.shape?, ha, hb, hq, hfo]; rfl, .drew _⟩
    · refine ⟨false, W, ?_, .refl _ _⟩
      have hq2 : (mayBeOne a b).run P W = .ok false W := by
        have : ∃ q, (mayBeOne a b).run P W = .ok q W := by
          cases hs : W.frozen? b <;> simp [mayBeOne, stringish, hf, hs, World.shape?, ha, hb]
        obtain ⟨q, h3⟩ := this
        cases q with
        | true => exact absurd h3 hq
        | false => exact h3
      simp [sameAddr, hbl, hf, noView, viewAt, World.shape?, ha, hb, hq2]
def NV (u : World) : Nat → Value → Prop
  | 0, _ => True
  | n + 1, v => ∀ a len cap, v = .slice (some a) len cap → ∀ i, i < len → (a.block < u.heap.size ∧ u.frozen? ⟨a.block, a.off + i * 5, none⟩ = false ∧ ∀ c, u.cell? ⟨a.block, a.off + i * 5 + 4, none⟩ = some c → NV u n c)
def AV (u : World) (v : Value) : Prop := ∀ n, NV u n v
def QV (u : World) (b o : Nat) : Prop := b < u.heap.size ∧ u.frozen? ⟨b, o, none⟩ = false ∧ ∀ c, u.cell? ⟨b, o + 4, none⟩ = some c → AV u c
theorem AV.idx {u : World} {a : Addr} {len cap i : Nat} (h : AV u (.slice (some a) len cap)) (hi : i < len) : QV u a.block (a.off + i * 5) :=
  ⟨(h 1 a len cap rfl i hi).1, (h 1 a len cap rfl i hi).2.1, fun c hc n => (h (n + 1) a len cap rfl i hi).2.2 c hc⟩
def Pin (u : World) (S : BSet) : Prop := ∀ b o, S b o → b < u.heap.size → o = u.heap[b]?
theorem cell_pin {u W : World} {S : BSet} (hp : Pin u S) {b o : Nat} (hb : S b W.heap[b]?) (hl : b < u.heap.size) : W.cell? ⟨b, o, none⟩ = u.cell? ⟨b, o, none⟩ := by
  have := hp b _ hb hl
  unfold World.cell?
  simp only [this]
theorem frozen_pin {u W : World} {S : BSet} (hp : Pin u S) {b o : Nat} (hb : S b W.heap[b]?) (hl : b < u.heap.size) : W.frozen? ⟨b, o, none⟩ = u.frozen? ⟨b, o, none⟩ := by
  have := hp b _ hb hl
  unfold World.frozen?
  simp only [this]
section
variable {P : Program} {ops : Array Oper} {S : Nat → Prop} {w0 : World} {a0 : Act} {Γ : Ctx}
variable {d : Option Tmp} {ty : TypeId} {pos : String} {af : Array Edge} {gd : Option (Nat × Bool)}
theorem sp_indexP {x y : Operand} {T E : TypeId} {b o n cap i : Nat} (hx : Has S w0 a0 Γ x (Is (.slice (some ⟨b, o, none⟩) n cap))) (hy : Has S w0 a0 Γ y (Is (.int .i64 i))) (hT : P.underlying T = some (.slice E)) (hz : szOf P E = some 5)
    (hi : i < n) : Spec P ops S w0 a0 Γ ⟨d, .indexAddr T x y, ty, pos, af, gd⟩ (Is (.pointer (some ⟨b, o + i * 5, none⟩))) := sp_val fun a g W hk hg he => by
  have e1 : a.eval x = .slice (some ⟨b, o, none⟩) n cap := hx.of_env hk hg he (by simp [Op.operands])
  have e2 : a.eval y = .int .i64 i := hy.of_env hk hg he (by simp [Op.operands])
  simp [execOp, e1, e2, Instr.indexAt, asIntOf, run_und hT, hi, run_szOf hz, add_none]
theorem sp_loadP {x : Operand} {T : TypeId} {b o : Nat} {u : Value} (hx : Has All w0 a0 Γ x (Is (.pointer (some ⟨b, o, none⟩)))) (hT : aggB P T = some false) (hz : szOf P T = some 1) (hc : w0.cell? ⟨b, o, none⟩ = some u) (hb : b < w0.heap.size) (hu : oneC u = true) :
    Spec P ops All w0 a0 Γ ⟨d, .load T x, ty, pos, af, gd⟩ (Is u) := fun a g W hk hg he => by
  have e1 : a.eval x = .pointer (some ⟨b, o, none⟩) := hx.of_env hk hg he (by simp [Op.operands])
  have hcW : CellsAt W b o [u] := fun i hi => by
    have : i = 0 := by simpa using hi
    subst this
    show W.cell? ⟨b, o, none⟩ = some u
    rw [← hc]; unfold World.cell?; simp only [hk.block b hb trivial]
  have hr := run_loadVar (P := P) hcW hT hz rfl (fun _ => rfl)
  unfold OpRuns
  have : (execOp a.eval ⟨d, .load T x, ty, pos, af, gd⟩).run P W = .ok (.value u) W := by
    simp only [execOp, e1, Instr.loadAt, Instr.sureAddr, Sem.run_bind, Sem.run_pure, Result.andThen_ok, hr]
    rfl
  rw [this]
  exact ⟨.refl _ _, rfl⟩
def Abv (W : World) (q : Value) : Prop := q = .pointer none ∨ ∃ b o c T f, q = .pointer (some ⟨b, o, none⟩) ∧ W.heap[b]? = some (.cells c T f)
theorem Abv.ext {W W' : World} {q : Value} (h : Abv W q) (k : Ext W W') : Abv W' q := by
  rcases h with h | ⟨b, o, c, T, f, h1, h2⟩
  · exact .inl h
  · exact .inr ⟨b, o, c, T, f, h1, by rw [k.block b (Array.getElem?_eq_some_iff.1 h2).1 trivial]; exact h2⟩
theorem sp_ptrEqN {x y : Operand} {T T' E : TypeId} {n b o : Nat} {q : Value} {c : Array Value} {tc : TypeId} {fc : Nat × Nat} (hT : P.underlying T = some (.pointer E)) (hz : szOf P E = some (n + 1)) (hx : Has All w0 a0 Γ x (Is (.pointer (some ⟨b, o, none⟩)))) (hy : Has All w0 a0 Γ y (Is q))
    (hc : w0.heap[b]? = some (.cells c tc fc)) (hf : w0.frozen? ⟨b, o, none⟩ = false) (hq : Abv w0 q) :
    Spec P ops All w0 a0 Γ ⟨d, .binOp .eql T x y T', ty, pos, af, gd⟩ (fun _ v _ => ∃ r, v = .bool r ∧ (q = .pointer none → r = false)) := fun a g W hk hg he => by
  have e1 : a.eval x = .pointer (some ⟨b, o, none⟩) := hx.of_env hk hg he (by simp [Op.operands])
  have e2 : a.eval y = q := hy.of_env hk hg he (by simp [Op.operands])
  have hbl := (Array.getElem?_eq_some_iff.1 hc).1
  have hc' : W.heap[b]? = some (.cells c tc fc) := by rw [hk.block b hbl trivial]; exact hc
  have hf' : W.frozen? ⟨b, o, none⟩ = false := by rw [← hf]; unfold World.frozen?; simp only [hk.block b hbl trivial]
  unfold OpRuns
  rcases hq.ext hk with rfl | ⟨b2, o2, c2, T2, f2, rfl, h2⟩
  · have : (execOp a.eval ⟨d, .binOp .eql T x y T', ty, pos, af, gd⟩).run P W = .ok (.value (.bool false)) W := by
      simp [execOp, e1, e2, binOp, eqGuard, equalIn_ptr hT (some _) none _ (.inr rfl)]
    rw [this]
    exact ⟨.refl _ _, false, rfl, fun _ => rfl⟩
  · obtain ⟨r, W', hs, hext⟩ := run_sameAddr_any (P := P) (a := ⟨b, o, none⟩) (b := ⟨b2, o2, none⟩) hc' h2 hf'
    have heq : (Op.equal T (.pointer (some ⟨b, o, none⟩)) (.pointer (some ⟨b2, o2, none⟩))).run P W = .ok r W' := by
      show (Op.equalIn (9999 + 1) T _ _).run P W = _
      rw [Op.equalIn]
      simp [run_und hT, run_szOf hz, hs]
    have : (execOp a.eval ⟨d, .binOp .eql T x y T', ty, pos, af, gd⟩).run P W = .ok (.value (.bool r)) W' := by
      simp [execOp, e1, e2, binOp, eqGuard, heq]
    rw [this]
    exact ⟨hext, r, rfl, fun h => by cases h⟩
theorem cell_row {W : World} {b o : Nat} {v : Value} (h : W.cell? ⟨b, o, none⟩ = some v) : ∃ c T f, W.heap[b]? = some (.cells c T f) := by
  unfold World.cell? at h
  split at h
  · rename_i c T f hq; exact ⟨_, _, _, hq⟩
  all_goals simp_all
end
end Go.Eng
namespace Go.Eng
structure Cp (x y : V) : Prop where
  k : y.k = x.k
  n : y.n = x.n
  t : y.t = x.t
  ns : y.ns = x.ns
  len : y.xs.length = x.xs.length
  at' : ∀ i (h : i < x.xs.length) (h2 : i < y.xs.length), y.xs[i] = x.xs[i] ∨ y.xs[i] = V.zero
theorem Cp.refl (x : V) : Cp x x := ⟨rfl, rfl, rfl, rfl, rfl, fun _ _ _ => .inl rfl⟩
theorem cp_wts : ∀ (a b : List V), b.length = a.length → (∀ i (h : i < a.length) (h2 : i < b.length), b[i] = a[i] ∨ b[i] = V.zero) → V.wts b ≤ V.wts a
  | [], [], _, _ => Nat.le_refl _
  | [], _ :: _, h, _ => by simp at h
  | _ :: _, [], h, _ => by simp at h
  | x :: a, y :: b, h, hi => by
    have h1 := cp_wts a b (by simpa using h) fun i h1 h2 => hi (i + 1) (by simpa using h1) (by simpa using h2)
    have h2 : y.wt ≤ x.wt := by
      rcases hi 0 (by simp) (by simp) with h3 | h3
      · have h3 : y = x := h3
        rw [h3]; exact Nat.le_refl _
      · have h3 : y = V.zero := h3
        rw [h3]; exact wt_pos x
    simp only [V.wts]; omega
theorem Cp.wt {x y : V} (h : Cp x y) : y.wt ≤ x.wt := by
  have h1 := cp_wts x.xs y.xs h.len h.at'
  have h2 := wt_eq x
  have h3 := wt_eq y
  rw [h.t, h.ns] at h3
  omega
end Go.Eng
namespace Go.Eng
theorem pin_sa {u w : World} {S : BSet} {M : List Nat} (hp : Pin u S) (hu : u.heap.size ≤ w.heap.size) : Pin u (SA w S M) := fun b o h hlt => hp b o (h.1 (by omega)) hlt
theorem rd_argQ {w : World} {S : BSet} {M : List Nat} {d : D} {v : Value} (h : Rd w S d v) (hM : ∀ b ∈ M, w.heap.size ≤ b) : Rd w (SA w S M) d v :=
  h.mono fun b o hb hlt => ⟨fun _ => hb, fun h' => by omega, fun hm => by have := hM b hm; omega⟩
theorem rdV_xs {W : World} {S : BSet} {x : V} {c0 c1 c2 c3 c4 : Value} (h : Rd W S x.d (.agg #[c0, c1, c2, c3, c4])) : Rd W S (valsD x.xs) c4 := by
  obtain ⟨_, _, _, _, e, _, _, h4⟩ := rdV_out h
  injection e with e
  have := congrArg Array.toList e
  simp at this
  rw [this.2.2.2.2]; exact h4
def AVv (u : World) (v : Value) : Prop := ∀ c0 c1 c2 c3 c4, v = .agg #[c0, c1, c2, c3, c4] → AV u c4
theorem el_qav {u w : World} {S : BSet} {xs : List V} {va : Option Addr} {vc k : Nat} (hP : Pin u S) (hav : AV u (.slice va xs.length vc)) (h : Rd w S (valsD xs) (.slice va xs.length vc)) (hk : k < xs.length) :
    ∃ b o na nc ua uc, va = some ⟨b, o, none⟩ ∧ b < w.heap.size ∧
      CellsAt w b (o + k * 5) [.int .u8 (xs[k]).k, .int .i64 (xs[k]).n, .string (xs[k]).t, .slice na (xs[k]).ns.length nc, .slice ua (xs[k]).xs.length uc] ∧ (xs[k]).t.size ≤ maxLen ∧
      Rd w S (strsD (xs[k]).ns) (.slice na (xs[k]).ns.length nc) ∧ Rd w S (valsD (xs[k]).xs) (.slice ua (xs[k]).xs.length uc) ∧ w.frozen? ⟨b, o + k * 5, none⟩ = false ∧ AV u (.slice ua (xs[k]).xs.length uc) := by
  obtain ⟨cs, h1, h2⟩ := h
  simp only [valsD, RdC] at h1
  obtain ⟨a, cap, rfl, _, _, h4⟩ := h1
  simp only [asm] at h2
  injection h2 with e1 e2 e3
  subst e1; subst e3
  rcases h4 with h4 | ⟨b, o, rfl, h5, h6, h7⟩
  · simp at h4; subst h4; simp at hk
  · obtain ⟨c, hl, hc, hr⟩ := h7.get k (by simpa using hk)
    rw [List.getElem_map] at hr
    obtain ⟨a1, c1, a2, c2, e, ht, h8, h9⟩ := rdV_out (⟨c, hr, rfl⟩ : Rd w S (xs[k]).d (asm (xs[k]).d c))
    have ec := cells_asm hr
    rw [e] at ec
    have ec' : c = [.int .u8 (xs[k]).k, .int .i64 (xs[k]).n, .string (xs[k]).t, .slice a1 (xs[k]).ns.length c1, .slice a2 (xs[k]).xs.length c2] := by
      have := congrArg Array.toList ec
      simpa [Value.cells] using this.symm
    subst ec'
    have hq : QV u b (o + k * 5) := AV.idx hav hk
    have hc4 : w.cell? ⟨b, o + k * 5 + 4, none⟩ = some (.slice a2 (xs[k]).xs.length c2) := hc 4 (by simp)
    exact ⟨b, o, a1, c1, a2, c2, rfl, h6, hc, ht, h8, h9, (frozen_pin hP h5 hq.1).trans hq.2.1, hq.2.2 _ ((cell_pin hP h5 hq.1).symm.trans hc4)⟩
theorem cell_keep {w w0 : World} {b o : Nat} (kw : Keeps All w w0) (hb : b < w.heap.size) : w0.cell? ⟨b, o, none⟩ = w.cell? ⟨b, o, none⟩ := by unfold World.cell?; simp only [kw.block b hb trivial]
theorem frozen_keep {w w0 : World} {b o : Nat} (kw : Keeps All w w0) (hb : b < w.heap.size) : w0.frozen? ⟨b, o, none⟩ = w.frozen? ⟨b, o, none⟩ := by unfold World.frozen?; simp only [kw.block b hb trivial]
def IsUB : Fact := fun _ v _ => ∃ r, v = .bool r
theorem st_ub {S : Nat → Prop} : Stable S IsUB := ⟨fun _ _ _ _ _ h => h, fun _ _ _ _ _ _ h => h⟩
def IsEx (x : V) (φ : V → Fact) : Fact := fun g v W => ∃ y, Cp x y ∧ φ y g v W
theorem st_ex1 {S : Nat → Prop} {x : V} {φ : V → Fact} (h : ∀ y, Stable S (φ y)) : Stable S (IsEx x φ) :=
  ⟨fun _ _ _ _ k ⟨y, h1, h2⟩ => ⟨y, h1, (h y).world _ _ _ _ k h2⟩, fun _ _ _ _ _ hb ⟨y, h1, h2⟩ => ⟨y, h1, (h y).ghost _ _ _ _ _ hb h2⟩⟩
section
variable {P : Program} {ops : Array Oper} {S : Nat → Prop} {w w0 : World} {a0 : Act} {Γ : Ctx}
variable {d : Option Tmp} {ty : TypeId} {pos : String} {af : Array Edge} {gd : Option (Nat × Bool)}
theorem sp_indexQ {x y : Operand} {T E : TypeId} {va : Option Addr} {b o n cap i : Nat} (hva : va = some ⟨b, o, none⟩) (hx : Has S w0 a0 Γ x (Is (.slice va n cap))) (hy : Has S w0 a0 Γ y (Is (.int .i64 i))) (hT : P.underlying T = some (.slice E)) (hz : szOf P E = some 5)
    (hi : i < n) : Spec P ops S w0 a0 Γ ⟨d, .indexAddr T x y, ty, pos, af, gd⟩ (Is (.pointer (some ⟨b, o + i * 5, none⟩))) := by subst hva; exact sp_indexP hx hy hT hz hi
theorem sp_loadQ {x : Operand} {T : TypeId} {b o : Nat} {u : Value} (kw : Keeps All w w0) (hx : Has All w0 a0 Γ x (Is (.pointer (some ⟨b, o, none⟩)))) (hT : aggB P T = some false) (hz : szOf P T = some 1) (hc : w.cell? ⟨b, o, none⟩ = some u) (hb : b < w.heap.size) (hu : oneC u = true) :
    Spec P ops All w0 a0 Γ ⟨d, .load T x, ty, pos, af, gd⟩ (Is u) := sp_loadP hx hT hz ((cell_keep kw hb).trans hc) (Nat.lt_of_lt_of_le hb kw.size) hu
theorem sp_loadQ5 {x : Operand} {T : TypeId} {b o : Nat} {c0 c1 c2 c3 c4 : Value} (kw : Keeps All w w0) (hx : Has All w0 a0 Γ x (Is (.pointer (some ⟨b, o, none⟩)))) (hT : aggB P T = some true) (hz : szOf P T = some 5) (hc : CellsAt w b o [c0, c1, c2, c3, c4]) (hb : b < w.heap.size) :
    Spec P ops All w0 a0 Γ ⟨d, .load T x, ty, pos, af, gd⟩ (Is (.agg #[c0, c1, c2, c3, c4])) := fun a g W hk hg he => by
  have e1 : a.eval x = .pointer (some ⟨b, o, none⟩) := hx.of_env hk hg he (by simp [Op.operands])
  have hcW : CellsAt W b o [c0, c1, c2, c3, c4] := fun i hi => ((cell_keep (kw.trans hk) hb).trans (hc i hi))
  have hr := run_loadVar (P := P) hcW hT hz rfl (fun h => by cases h)
  unfold OpRuns
  have : (execOp a.eval ⟨d, .load T x, ty, pos, af, gd⟩).run P W = .ok (.value (.agg #[c0, c1, c2, c3, c4])) W := by
    simp only [execOp, e1, Instr.loadAt, Instr.sureAddr, Sem.run_bind, Sem.run_pure, Result.andThen_ok, hr]
    rfl
  rw [this]
  exact ⟨.refl _ _, rfl⟩
theorem sp_ptrEqQ {x y : Operand} {T T' E : TypeId} {n b o : Nat} {q cv : Value} (kw : Keeps All w w0) (hT : P.underlying T = some (.pointer E)) (hz : szOf P E = some (n + 1)) (hx : Has All w0 a0 Γ x (Is (.pointer (some ⟨b, o, none⟩)))) (hy : Has All w0 a0 Γ y (Is q))
    (hc : w.cell? ⟨b, o, none⟩ = some cv) (hb : b < w.heap.size) (hf : w.frozen? ⟨b, o, none⟩ = false) (hq : Abv w q) :
    Spec P ops All w0 a0 Γ ⟨d, .binOp .eql T x y T', ty, pos, af, gd⟩ IsUB := by
  obtain ⟨c, tc, fc, hr⟩ := cell_row hc
  exact sp_mono (sp_ptrEqN hT hz hx hy ((kw.block b hb trivial).trans hr) ((frozen_keep kw hb).trans hf) (hq.ext kw)) fun _ _ _ ⟨r, h, _⟩ => ⟨r, h⟩
end
theorem abv_q {w : World} {b o : Nat} {cv : Value} (hc : w.cell? ⟨b, o, none⟩ = some cv) : Abv w (.pointer (some ⟨b, o, none⟩)) :=
  let ⟨c, T, f, h⟩ := cell_row hc; .inr ⟨b, o, c, T, f, rfl, h⟩
def CpL (xs ys : List V) (k : Nat) : Prop := ys.length = k ∧ ∀ i (h : i < xs.length) (h2 : i < ys.length), ys[i] = xs[i] ∨ ys[i] = V.zero
theorem cpL_nil (xs : List V) : CpL xs [] 0 := ⟨rfl, fun i _ h => by simp at h⟩
theorem cpL_step {xs ys : List V} {k : Nat} {y : V} (h : CpL xs ys k) (hk : k < xs.length) (hy : y = xs[k] ∨ y = V.zero) : CpL xs (ys ++ [y]) (k + 1) := by
  refine ⟨by simp [h.1], fun i h1 h2 => ?_⟩
  by_cases hik : i < ys.length
  · rw [List.getElem_append_left hik]; exact h.2 i h1 hik
  · have hi2 : i < ys.length + 1 := by simpa using h2
    have : i = k := by have := h.1; omega
    subst this
    rw [List.getElem_append_right (by omega)]
    simpa using hy
end Go.Eng
namespace Go.Proofs.Ytnobijngkpflcaa
open Go.Eng
set_option maxRecDepth 100000 in
theorem endlessP_all (u : World) : ∀ (n : Nat) (xs : List V), V.cnts xs < n → ∀ (level : Int), 0 ≤ level → level + n ≤ 4294967296 → ∀ (nested : Bool) (p : Value) (w : World) (S : BSet) (v : Value), u.heap.size ≤ w.heap.size → Pin u S → AV u v → Rd w S (valsD xs) v → Abv w p →
    Calls Try.prog 137 #[v, .int .i64 level, p, .bool nested] w (Ret w fun r _ => ∃ b, r = .bool b) := by
  intro n
  induction n with
  | zero => intro xs hx; omega
  | succ n ih =>
  intro xs hx level hl0 hl nested p w S v hu hP hav hv hab
  have hmx : xs.length ≤ maxLen := rd_len hv
  simp only [maxLen] at hmx
  obtain ⟨va, vc, ev, D_v⟩ := rdVs_out (rd_arg hv)
  subst ev
  refine enter Try.func137 rfl Try.ntmps137 (lbr rfl) fun a0 y0 zz0 harg => ?_
  have e0 : sl a0 0 = (.slice va (xs.length) vc) := harg 0 (lbr rfl)
  have e1 : sl a0 1 = (.int .i64 (level)) := harg 1 (lbr rfl)
  have e2 : sl a0 2 = p := harg 2 (lbr rfl)
  have e3 : sl a0 3 = (.bool (nested)) := harg 3 (lbr rfl)
  have kw := Keeps.refl All w
  clear harg
  refine wp_seq_k fun K1 hK1 => ?_
  refine rg mixed y0 zz0 ?_
  refine .i (sp_assign Has.cst) ?_
  refine .done ⟨by kernel_rfl, fun a2 g W2 y2 zz2 hk hg hV hR hP => ?_⟩
  obtain ⟨-, -⟩ := hV
  replace e0 := (hR 0 rfl).trans e0
  replace e1 := (hR 1 rfl).trans e1
  replace e2 := (hR 2 rfl).trans e2
  replace e3 := (hR 3 rfl).trans e3
  replace D_v := D_v.ext hk
  replace kw := kw.x hk
  clear hR hk hg hP
  refine tail_nil (hK1 _ _ ?_)
  refine wp_seq_k fun K3 hK3 => ?_
  refine wp_seq_k fun K4 hK4 => ?_
  refine rg mixed y2 zz2 ?_
  refine .i (sp_move (hbs rfl e0)) ?_
  refine .i (sp_lenVs Try.underlying31 ((hlc rfl).dat D_v sub_all)) ?_
  refine .i (sp_move Has.cst) ?_
  refine .done ⟨by kernel_rfl, fun a5 g W5 y5 zz5 hk hg hV hR hP => ?_⟩
  obtain ⟨e14, e13, -, -⟩ := hV
  replace e0 := (hR 0 rfl).trans e0
  replace e1 := (hR 1 rfl).trans e1
  replace e2 := (hR 2 rfl).trans e2
  replace e3 := (hR 3 rfl).trans e3
  replace D_v := D_v.ext hk
  have e13 : sl a5 13 = (.int .i64 (xs.length)) := e13
  have e14 : sl a5 14 = (.int .i64 (0)) := e14
  replace kw := kw.x hk
  clear hR hk hg hP
  refine tail_nil (hK4 _ _ ?_)
  refine wp_block ?_
  refine wp_for (xs.length) (fun k a W => a.tmps.size = 55 ∧ a.defers = [] ∧ Keeps All w W ∧ sl a 0 = (.slice va (xs.length) vc) ∧ sl a 1 = (.int .i64 (level)) ∧ sl a 2 = p ∧ sl a 3 = (.bool (nested)) ∧ sl a 13 = (.int .i64 (xs.length)) ∧ sl a 14 = (.int .i64 ((k : Nat))) ∧ Rd W (SA w S []) (valsD (xs)) (.slice va (xs.length) vc)) ⟨y5, zz5, kw, e0, e1, e2, e3, e13, (e14.trans (congrArg (Value.int .i64) (rfl))), D_v⟩ ?_
  clear kw e0 e1 e2 e3 e13 e14 D_v
  rintro k a6 W6 hkk ⟨y6, zz6, kw, e0, e1, e2, e3, e13, e14, D_v⟩
  refine wp_seq_k fun K7 hK7 => ?_
  refine rg mixed y6 zz6 ?_
  refine .i (sp_lss (hbs rfl e14) (hbs rfl e13)) ?_
  refine .done ⟨by kernel_rfl, fun a8 g W8 y8 zz8 hk hg hV hR hP => ?_⟩
  obtain ⟨e15, -⟩ := hV
  replace e0 := (hR 0 rfl).trans e0
  replace e1 := (hR 1 rfl).trans e1
  replace e2 := (hR 2 rfl).trans e2
  replace e3 := (hR 3 rfl).trans e3
  replace e13 := (hR 13 rfl).trans e13
  replace e14 := (hR 14 rfl).trans e14
  replace D_v := D_v.ext hk
  replace e15 := e15.q
  replace kw := kw.x hk
  clear hR hk hg hP
  refine tail_nil (hK7 _ _ ?_)
  refine wp_seq_k fun K9 hK9 => ?_
  refine wp_cond_split e15 (fun hc => ?_) (fun hc => ?_)
  ·
   have hlt : k < xs.length := by simpa using hc
   have hce := cnt_elem hlt
   have hcw := cnt_eq xs[k]
   obtain ⟨bq, oq, nqa, nqc, xqa, xqc, evq, hltq, hcq, htq, hnq, hxq, hfq, av_xq⟩ := el_qav hP hav hv hlt
   have D_nq : Rd W8 (SA w S []) (strsD ((xs[k]'hlt).ns)) (.slice nqa (((xs[k]'hlt).ns).length) nqc) := (rd_argQ hnq in_nil).ext kw
   have D_xq : Rd W8 (SA w S []) (valsD ((xs[k]'hlt).xs)) (.slice xqa (((xs[k]'hlt).xs).length) xqc) := (rd_argQ hxq in_nil).ext kw
   refine wp_skip (hK9 _ _ ?_)
   refine wp_seq_k fun K10 hK10 => ?_
   refine wp_block ?_
   refine wp_seq_k fun K11 hK11 => ?_
   refine rg mixed y8 zz8 ?_
   refine .i (sp_move (hbs rfl e14)) ?_
   refine .i (sp_assign (hlc rfl)) ?_
   refine .done ⟨by kernel_rfl, fun a12 g W12 y12 zz12 hk hg hV hR hP => ?_⟩
   obtain ⟨e9, -, -⟩ := hV
   replace e0 := (hR 0 rfl).trans e0
   replace e1 := (hR 1 rfl).trans e1
   replace e2 := (hR 2 rfl).trans e2
   replace e3 := (hR 3 rfl).trans e3
   replace e13 := (hR 13 rfl).trans e13
   replace e14 := (hR 14 rfl).trans e14
   replace D_v := D_v.ext hk
   replace D_nq := D_nq.ext hk
   replace D_xq := D_xq.ext hk
   have e9 : sl a12 9 = (.int .i64 ((k : Nat))) := e9
   replace kw := kw.x hk
   clear hR hk hg hP
   refine tail_nil (hK11 _ _ ?_)
   refine wp_seq_k fun K13 hK13 => ?_
   refine rg mixed y12 zz12 ?_
   refine .i (sp_move (hbs rfl e0)) ?_
   refine .i (sp_move (hbs rfl e9)) ?_
   refine .i (v := (.pointer (some ⟨bq, oq + k * 5, none⟩))) (sp_indexQ (i := k) evq (hlc rfl) (hlc rfl) Try.underlying31 sz33 hlt) ?_
   refine .i (sp_assign (hlc rfl)) ?_
   refine .done ⟨by kernel_rfl, fun a14 g W14 y14 zz14 hk hg hV hR hP => ?_⟩
   obtain ⟨e10, -, -, -, -⟩ := hV
   replace e0 := (hR 0 rfl).trans e0
   replace e1 := (hR 1 rfl).trans e1
   replace e2 := (hR 2 rfl).trans e2
   replace e3 := (hR 3 rfl).trans e3
   replace e13 := (hR 13 rfl).trans e13
   replace e14 := (hR 14 rfl).trans e14
   replace D_v := D_v.ext hk
   replace D_nq := D_nq.ext hk
   replace D_xq := D_xq.ext hk
   have e10 : sl a14 10 = (.pointer (some ⟨bq, oq + k * 5, none⟩)) := e10
   replace kw := kw.x hk
   clear hR hk hg hP
   refine tail_nil (hK13 _ _ ?_)
   refine wp_seq_k fun K15 hK15 => ?_
   refine wp_seq_k fun K16 hK16 => ?_
   refine rg mixed y14 zz14 ?_
   refine .i (sp_move (hbs rfl e3)) ?_
   refine .i (sp_move (hlc rfl)) ?_
   refine .e (t := 21) rfl (hlc rfl) (fun hg => sp_move (hbs rfl e10)) ?_
   refine .e (t := 21) rfl (hlc rfl) (fun hg => sp_nilP ((hlc rfl).undE hg)) ?_
   refine .e (t := 21) (v := (.pointer (some ⟨bq, oq + k * 5 + 0, none⟩))) rfl (hlc rfl) (fun hg => sp_fieldO ((hlc rfl).undE hg) Try.underlying33 rfl sz5 rfl) ?_
   refine .e (t := 21) (v := (.int .u8 ((xs[k]'hlt).k))) rfl (hlc rfl) (fun hg => sp_loadQ kw ((hlc rfl).undE hg) agg5 sz5 (hcq 0 (lbr rfl)) hltq rfl) ?_
   refine .e (t := 21) rfl (hlc rfl) (fun hg => sp_neq ((hlc rfl).undE hg) Has.cst) ?_
   refine .i (sp_and (hlc rfl) ((hlc rfl).weak fun hq => hq)) ?_
   refine .i (sp_move (hlc rfl)) ?_
   refine .e (t := 28) rfl (hlc rfl) (fun hg => sp_move (hbs rfl e10)) ?_
   refine .e (t := 28) rfl (hlc rfl) (fun hg => sp_nilP ((hlc rfl).undE hg)) ?_
   refine .e (t := 28) (v := (.pointer (some ⟨bq, oq + k * 5 + 0, none⟩))) rfl (hlc rfl) (fun hg => sp_fieldO ((hlc rfl).undE hg) Try.underlying33 rfl sz5 rfl) ?_
   refine .e (t := 28) (v := (.int .u8 ((xs[k]'hlt).k))) rfl (hlc rfl) (fun hg => sp_loadQ kw ((hlc rfl).undE hg) agg5 sz5 (hcq 0 (lbr rfl)) hltq rfl) ?_
   refine .e (t := 28) rfl (hlc rfl) (fun hg => sp_neq ((hlc rfl).undE hg) Has.cst) ?_
   refine .i (sp_and (hlc rfl) ((hlc rfl).weak fun hq => hq)) ?_
   refine .done ⟨by kernel_rfl, fun a17 g W17 y17 zz17 hk hg hV hR hP => ?_⟩
   obtain ⟨e34, -, -, -, -, -, -, -, -, -, -, -, -, -, -, -⟩ := hV
   replace e0 := (hR 0 rfl).trans e0
   replace e1 := (hR 1 rfl).trans e1
   replace e2 := (hR 2 rfl).trans e2
   replace e3 := (hR 3 rfl).trans e3
   replace e13 := (hR 13 rfl).trans e13
   replace e14 := (hR 14 rfl).trans e14
   replace e10 := (hR 10 rfl).trans e10
   replace D_v := D_v.ext hk
   replace D_nq := D_nq.ext hk
   replace D_xq := D_xq.ext hk
   replace e34 := e34.q
   replace kw := kw.x hk
   clear hR hk hg hP
   refine tail_nil (hK16 _ _ ?_)
   refine wp_cond_split e34 (fun hc => ?_) (fun hc => ?_)
   ·
    refine wp_exit (hK10 _ _ ?_)
    refine rg mixed y17 zz17 ?_
    refine .i (sp_add (hbs rfl e14) Has.cst (i64_in (by omega))) ?_
    refine .i (sp_move (hlc rfl)) ?_
    refine .done ⟨by kernel_rfl, fun a18 g W18 y18 zz18 hk hg hV hR hP => ?_⟩
    obtain ⟨e14, -, -⟩ := hV
    replace e0 := (hR 0 rfl).trans e0
    replace e1 := (hR 1 rfl).trans e1
    replace e2 := (hR 2 rfl).trans e2
    replace e3 := (hR 3 rfl).trans e3
    replace e13 := (hR 13 rfl).trans e13
    replace D_v := D_v.ext hk
    replace D_nq := D_nq.ext hk
    replace D_xq := D_xq.ext hk
    replace e14 := e14.q
    replace kw := kw.x hk
    clear hR hk hg hP
    exact tail_nil ⟨hlt, y18, zz18, kw, e0, e1, e2, e3, e13, (e14.trans (congrArg (Value.int .i64) (by simp))), D_v⟩
   ·
    refine wp_skip (hK15 _ _ ?_)
    refine wp_seq_k fun K19 hK19 => ?_
    refine wp_seq_k fun K20 hK20 => ?_
    refine rg mixed y17 zz17 ?_
    refine .i (sp_move (hbs rfl e10)) ?_
    refine .i (sp_move (hbs rfl e2)) ?_
    refine .op (φ := IsUB) st_ub (sp_ptrEqQ kw Try.underlying186 sz33 (hlc rfl) (hlc rfl) (hcq 0 (lbr rfl)) hltq hfq (hab)) ?_
    refine .done ⟨by kernel_rfl, fun a21 g W21 y21 zz21 hk hg hV hR hP => ?_⟩
    obtain ⟨e37, -, -, -⟩ := hV
    replace e0 := (hR 0 rfl).trans e0
    replace e1 := (hR 1 rfl).trans e1
    replace e2 := (hR 2 rfl).trans e2
    replace e3 := (hR 3 rfl).trans e3
    replace e13 := (hR 13 rfl).trans e13
    replace e14 := (hR 14 rfl).trans e14
    replace e10 := (hR 10 rfl).trans e10
    obtain ⟨r37_21, e37⟩ := e37
    replace D_v := D_v.ext hk
    replace D_nq := D_nq.ext hk
    replace D_xq := D_xq.ext hk
    have e37 : sl a21 37 = (.bool (r37_21)) := e37
    replace kw := kw.x hk
    clear hR hk hg hP
    refine tail_nil (hK20 _ _ ?_)
    refine wp_cond_split e37 (fun hc => ?_) (fun hc => ?_)
    ·
     refine wp_seq_k fun K22 hK22 => ?_
     refine rg mixed y21 zz21 ?_
     refine .i (sp_assign Has.cst) ?_
     refine .done ⟨by kernel_rfl, fun a23 g W23 y23 zz23 hk hg hV hR hP => ?_⟩
     obtain ⟨e8, -⟩ := hV
     replace D_v := D_v.ext hk
     replace D_nq := D_nq.ext hk
     replace D_xq := D_xq.ext hk
     have e8 : sl a23 8 = (.bool (true)) := e8
     replace kw := kw.x hk
     clear hR hk hg hP
     refine tail_nil (hK22 _ _ ?_)
     refine wp_ret ?_
     refine (show bodyPost Try.prog Try.f137 _ .ret _ _ from ret1 rfl zz23 e8 ⟨_, rfl, kw, ?_⟩)
     exact ⟨_, rfl⟩
    ·
     refine wp_skip (hK19 _ _ ?_)
     refine wp_seq_k fun K24 hK24 => ?_
     refine rg mixed y21 zz21 ?_
     refine .i (sp_move (hbs rfl e2)) ?_
     refine .i (sp_assign (hlc rfl)) ?_
     refine .done ⟨by kernel_rfl, fun a25 g W25 y25 zz25 hk hg hV hR hP => ?_⟩
     obtain ⟨e11, -, -⟩ := hV
     replace e0 := (hR 0 rfl).trans e0
     replace e1 := (hR 1 rfl).trans e1
     replace e2 := (hR 2 rfl).trans e2
     replace e3 := (hR 3 rfl).trans e3
     replace e13 := (hR 13 rfl).trans e13
     replace e14 := (hR 14 rfl).trans e14
     replace e10 := (hR 10 rfl).trans e10
     replace D_v := D_v.ext hk
     replace D_nq := D_nq.ext hk
     replace D_xq := D_xq.ext hk
     have e11 : sl a25 11 = p := e11
     replace kw := kw.x hk
     clear hR hk hg hP
     refine tail_nil (hK24 _ _ ?_)
     refine wp_seq_k fun K26 hK26 => ?_
     refine wp_seq_k fun K27 hK27 => ?_
     refine rg mixed y25 zz25 ?_
     refine .i (sp_move (hbs rfl e1)) ?_
     refine .i (sp_move (hbs rfl e1)) ?_
     refine .i (sp_sub (hlc rfl) Has.cst (i64_in (by omega))) ?_
     refine .i (sp_band (hlc rfl) (hlc rfl)) ?_
     refine .i (sp_eql (hlc rfl) Has.cst) ?_
     refine .done ⟨by kernel_rfl, fun a28 g W28 y28 zz28 hk hg hV hR hP => ?_⟩
     obtain ⟨e43, -, -, -, -, -⟩ := hV
     replace e0 := (hR 0 rfl).trans e0
     replace e1 := (hR 1 rfl).trans e1
     replace e2 := (hR 2 rfl).trans e2
     replace e3 := (hR 3 rfl).trans e3
     replace e13 := (hR 13 rfl).trans e13
     replace e14 := (hR 14 rfl).trans e14
     replace e10 := (hR 10 rfl).trans e10
     replace e11 := (hR 11 rfl).trans e11
     replace D_v := D_v.ext hk
     replace D_nq := D_nq.ext hk
     replace D_xq := D_xq.ext hk
     replace e43 := e43.q
     replace kw := kw.x hk
     clear hR hk hg hP
     refine tail_nil (hK27 _ _ ?_)
     refine wp_cond_split e43 (fun hc => ?_) (fun hc => ?_)
     ·
      refine rg mixed y28 zz28 ?_
      refine .i (sp_move (hbs rfl e10)) ?_
      refine .i (sp_assign (hlc rfl)) ?_
      refine .done ⟨by kernel_rfl, fun a29 g W29 y29 zz29 hk hg hV hR hP => ?_⟩
      obtain ⟨e11, -, -⟩ := hV
      replace e0 := (hR 0 rfl).trans e0
      replace e1 := (hR 1 rfl).trans e1
      replace e2 := (hR 2 rfl).trans e2
      replace e3 := (hR 3 rfl).trans e3
      replace e13 := (hR 13 rfl).trans e13
      replace e14 := (hR 14 rfl).trans e14
      replace e10 := (hR 10 rfl).trans e10
      replace D_v := D_v.ext hk
      replace D_nq := D_nq.ext hk
      replace D_xq := D_xq.ext hk
      have e11 : sl a29 11 = (.pointer (some ⟨bq, oq + k * 5, none⟩)) := e11
      replace kw := kw.x hk
      clear hR hk hg hP
      refine tail_nil (hK26 _ _ ?_)
      refine wp_seq_k fun K30 hK30 => ?_
      refine rg mixed y29 zz29 ?_
      refine .i (sp_move (hbs rfl e10)) ?_
      refine .i (sp_nilP (hlc rfl)) ?_
      refine .i (v := (.pointer (some ⟨bq, oq + k * 5 + 4, none⟩))) (sp_fieldO (hlc rfl) Try.underlying33 rfl sz31 rfl) ?_
      refine .i (v := (.slice xqa (((xs[k]'hlt).xs).length) xqc)) (sp_loadQ kw (hlc rfl) agg31 sz31 (hcq 4 (lbr rfl)) hltq rfl) ?_
      refine .i (sp_move (hbs rfl e1)) ?_
      refine .i (sp_add (hlc rfl) Has.cst (i64_in (by omega))) ?_
      refine .i (sp_move (hbs rfl e11)) ?_
      refine .i (sp_move (hbs rfl e3)) ?_
      refine .op (φ := IsUB) st_ub (sp_call4 (φ1 := Is (.slice xqa (((xs[k]'hlt).xs).length) xqc)) (φ2 := Is (.int .i64 ((level : Int) + (1 : Int)))) (φ3 := Is (.pointer (some ⟨bq, oq + k * 5, none⟩))) (φ4 := Is (.bool (nested))) ent137 (hlc rfl) (hlc rfl) (hlc rfl) (hlc rfl) (fun g u1 u2 u3 u4 W hk hgk h1 h2 h3 h4 => by have h1 : u1 = _ := h1; subst u1; have h2 : u2 = _ := h2; subst u2; have h3 : u3 = _ := h3; subst u3; have h4 : u4 = _ := h4; subst u4; exact ih ((xs[k]'hlt).xs) (by omega) ((level : Int) + (1 : Int)) (by omega) (by omega) (nested) _ W _ _ (Nat.le_trans hu (Nat.le_trans kw.size hk.size)) (pin_sa hP hu) av_xq (D_xq.ext hk) (((abv_q (hcq 0 (lbr rfl))).ext kw).ext hk))) ?_
      refine .done ⟨by kernel_rfl, fun a31 g W31 y31 zz31 hk hg hV hR hP => ?_⟩
      obtain ⟨e53, -, -, -, -, -, -, -, -, -⟩ := hV
      replace e0 := (hR 0 rfl).trans e0
      replace e1 := (hR 1 rfl).trans e1
      replace e2 := (hR 2 rfl).trans e2
      replace e3 := (hR 3 rfl).trans e3
      replace e13 := (hR 13 rfl).trans e13
      replace e14 := (hR 14 rfl).trans e14
      obtain ⟨r53_31, e53⟩ := e53
      replace D_v := D_v.ext hk
      replace D_nq := D_nq.ext hk
      replace D_xq := D_xq.ext hk
      have e53 : sl a31 53 = (.bool (r53_31)) := e53
      replace kw := kw.x hk
      clear hR hk hg hP
      refine tail_nil (hK30 _ _ ?_)
      refine wp_cond_split e53 (fun hc => ?_) (fun hc => ?_)
      ·
       refine wp_seq_k fun K32 hK32 => ?_
       refine rg mixed y31 zz31 ?_
       refine .i (sp_assign Has.cst) ?_
       refine .done ⟨by kernel_rfl, fun a33 g W33 y33 zz33 hk hg hV hR hP => ?_⟩
       obtain ⟨e8, -⟩ := hV
       replace D_v := D_v.ext hk
       replace D_nq := D_nq.ext hk
       replace D_xq := D_xq.ext hk
       have e8 : sl a33 8 = (.bool (true)) := e8
       replace kw := kw.x hk
       clear hR hk hg hP
       refine tail_nil (hK32 _ _ ?_)
       refine wp_ret ?_
       refine (show bodyPost Try.prog Try.f137 _ .ret _ _ from ret1 rfl zz33 e8 ⟨_, rfl, kw, ?_⟩)
       exact ⟨_, rfl⟩
      ·
       refine wp_skip (hK10 _ _ ?_)
       refine rg mixed y31 zz31 ?_
       refine .i (sp_add (hbs rfl e14) Has.cst (i64_in (by omega))) ?_
       refine .i (sp_move (hlc rfl)) ?_
       refine .done ⟨by kernel_rfl, fun a34 g W34 y34 zz34 hk hg hV hR hP => ?_⟩
       obtain ⟨e14, -, -⟩ := hV
       replace e0 := (hR 0 rfl).trans e0
       replace e1 := (hR 1 rfl).trans e1
       replace e2 := (hR 2 rfl).trans e2
       replace e3 := (hR 3 rfl).trans e3
       replace e13 := (hR 13 rfl).trans e13
       replace D_v := D_v.ext hk
       replace D_nq := D_nq.ext hk
       replace D_xq := D_xq.ext hk
       replace e14 := e14.q
       replace kw := kw.x hk
       clear hR hk hg hP
       exact tail_nil ⟨hlt, y34, zz34, kw, e0, e1, e2, e3, e13, (e14.trans (congrArg (Value.int .i64) (by simp))), D_v⟩
     ·
      refine wp_skip (hK26 _ _ ?_)
      refine wp_seq_k fun K35 hK35 => ?_
      refine rg mixed y28 zz28 ?_
      refine .i (sp_move (hbs rfl e10)) ?_
      refine .i (sp_nilP (hlc rfl)) ?_
      refine .i (v := (.pointer (some ⟨bq, oq + k * 5 + 4, none⟩))) (sp_fieldO (hlc rfl) Try.underlying33 rfl sz31 rfl) ?_
      refine .i (v := (.slice xqa (((xs[k]'hlt).xs).length) xqc)) (sp_loadQ kw (hlc rfl) agg31 sz31 (hcq 4 (lbr rfl)) hltq rfl) ?_
      refine .i (sp_move (hbs rfl e1)) ?_
      refine .i (sp_add (hlc rfl) Has.cst (i64_in (by omega))) ?_
      refine .i (sp_move (hbs rfl e11)) ?_
      refine .i (sp_move (hbs rfl e3)) ?_
      refine .op (φ := IsUB) st_ub (sp_call4 (φ1 := Is (.slice xqa (((xs[k]'hlt).xs).length) xqc)) (φ2 := Is (.int .i64 ((level : Int) + (1 : Int)))) (φ3 := Is p) (φ4 := Is (.bool (nested))) ent137 (hlc rfl) (hlc rfl) (hlc rfl) (hlc rfl) (fun g u1 u2 u3 u4 W hk hgk h1 h2 h3 h4 => by have h1 : u1 = _ := h1; subst u1; have h2 : u2 = _ := h2; subst u2; have h3 : u3 = _ := h3; subst u3; have h4 : u4 = _ := h4; subst u4; exact ih ((xs[k]'hlt).xs) (by omega) ((level : Int) + (1 : Int)) (by omega) (by omega) (nested) _ W _ _ (Nat.le_trans hu (Nat.le_trans kw.size hk.size)) (pin_sa hP hu) av_xq (D_xq.ext hk) ((hab.ext kw).ext hk))) ?_
      refine .done ⟨by kernel_rfl, fun a36 g W36 y36 zz36 hk hg hV hR hP => ?_⟩
      obtain ⟨e53, -, -, -, -, -, -, -, -, -⟩ := hV
      replace e0 := (hR 0 rfl).trans e0
      replace e1 := (hR 1 rfl).trans e1
      replace e2 := (hR 2 rfl).trans e2
      replace e3 := (hR 3 rfl).trans e3
      replace e13 := (hR 13 rfl).trans e13
      replace e14 := (hR 14 rfl).trans e14
      obtain ⟨r53_36, e53⟩ := e53
      replace D_v := D_v.ext hk
      replace D_nq := D_nq.ext hk
      replace D_xq := D_xq.ext hk
      have e53 : sl a36 53 = (.bool (r53_36)) := e53
      replace kw := kw.x hk
      clear hR hk hg hP
      refine tail_nil (hK35 _ _ ?_)
      refine wp_cond_split e53 (fun hc => ?_) (fun hc => ?_)
      ·
       refine wp_seq_k fun K37 hK37 => ?_
       refine rg mixed y36 zz36 ?_
       refine .i (sp_assign Has.cst) ?_
       refine .done ⟨by kernel_rfl, fun a38 g W38 y38 zz38 hk hg hV hR hP => ?_⟩
       obtain ⟨e8, -⟩ := hV
       replace D_v := D_v.ext hk
       replace D_nq := D_nq.ext hk
       replace D_xq := D_xq.ext hk
       have e8 : sl a38 8 = (.bool (true)) := e8
       replace kw := kw.x hk
       clear hR hk hg hP
       refine tail_nil (hK37 _ _ ?_)
       refine wp_ret ?_
       refine (show bodyPost Try.prog Try.f137 _ .ret _ _ from ret1 rfl zz38 e8 ⟨_, rfl, kw, ?_⟩)
       exact ⟨_, rfl⟩
      ·
       refine wp_skip (hK10 _ _ ?_)
       refine rg mixed y36 zz36 ?_
       refine .i (sp_add (hbs rfl e14) Has.cst (i64_in (by omega))) ?_
       refine .i (sp_move (hlc rfl)) ?_
       refine .done ⟨by kernel_rfl, fun a39 g W39 y39 zz39 hk hg hV hR hP => ?_⟩
       obtain ⟨e14, -, -⟩ := hV
       replace e0 := (hR 0 rfl).trans e0
       replace e1 := (hR 1 rfl).trans e1
       replace e2 := (hR 2 rfl).trans e2
       replace e3 := (hR 3 rfl).trans e3
       replace e13 := (hR 13 rfl).trans e13
       replace D_v := D_v.ext hk
       replace D_nq := D_nq.ext hk
       replace D_xq := D_xq.ext hk
       replace e14 := e14.q
       replace kw := kw.x hk
       clear hR hk hg hP
       exact tail_nil ⟨hlt, y39, zz39, kw, e0, e1, e2, e3, e13, (e14.trans (congrArg (Value.int .i64) (by simp))), D_v⟩
  ·
   have hge0 : ¬ k < xs.length := by simpa using hc
   have hge : k = xs.length := by omega
   refine wp_exit (hK3 _ _ ?_)
   refine wp_seq_k fun K40 hK40 => ?_
   refine rg mixed y8 zz8 ?_
   refine .i (sp_assign Has.cst) ?_
   refine .done ⟨by kernel_rfl, fun a41 g W41 y41 zz41 hk hg hV hR hP => ?_⟩
   obtain ⟨e8, -⟩ := hV
   replace D_v := D_v.ext hk
   have e8 : sl a41 8 = (.bool (false)) := e8
   replace kw := kw.x hk
   clear hR hk hg hP
   refine tail_nil (hK40 _ _ ?_)
   refine wp_ret ?_
   refine (show bodyPost Try.prog Try.f137 _ .ret _ _ from ret1 rfl zz41 e8 ⟨_, rfl, kw, ?_⟩)
   exact ⟨_, rfl⟩
set_option maxRecDepth 100000 in
theorem CopyP_ok (u : World) (x : V) (hx : x.wt ≤ 1073741824) (w : World) (S : BSet) (v : Value) (hu : u.heap.size ≤ w.heap.size) (hP : Pin u S) (hav : AVv u v) (hv : Rd w S x.d v) : Calls Try.prog 79 #[v] w (Ret w fun r W => ∃ y, Cp x y ∧ Rd W (Fr w) (V.d y) r) := by
  have hwx := wt_eq x
  have hwl := wts_len x.xs
  have hwn := wtN_len x.ns
  obtain ⟨cn0a, cn0c, ci0a, ci0c, ev, ht0, D_cn0, D_ci0⟩ := rdV_out (rd_arg hv)
  subst ev
  refine enter Try.func79 rfl Try.ntmps79 (lbr rfl) fun a0 y0 zz0 harg => ?_
  have e0 : sl a0 0 = (.agg #[(.int .u8 (x.k)), (.int .i64 (x.n)), (.string (x.t)), (.slice cn0a (x.ns.length) cn0c), (.slice ci0a (x.xs.length) ci0c)]) := harg 0 (lbr rfl)
  have kw := Keeps.refl All w
  clear harg
  refine wp_seq_k fun K1 hK1 => ?_
  refine rg mixed y0 zz0 ?_
  refine .boxOp (v := (.agg #[(.int .u8 (x.k)), (.int .i64 (x.n)), (.string (x.t)), (.slice cn0a (x.ns.length) cn0c), (.slice ci0a (x.xs.length) ci0c)])) (hbs rfl e0) ?_
  refine .alloc z33 ?_
  refine .done ⟨by kernel_rfl, fun a2 g W2 y2 zz2 hk hg hV hR hP => ?_⟩
  obtain ⟨⟨b2_2, e2, hb2, own_b2_2⟩, ⟨b1_2, e1, hb1, own_b1_2⟩, -⟩ := hV
  have lo_b2_2 : w.heap.size ≤ b2_2 := Nat.le_trans kw.size (hg.lo _ _ hb2)
  have own_b2_2 : Own W2 b2_2 [(.int .u8 (0)), (.int .i64 (0)), (.string (⟨#[]⟩)), (.slice none 0 0), (.slice none 0 0)] 33 := own_b2_2
  have lo_b1_2 : w.heap.size ≤ b1_2 := Nat.le_trans kw.size (hg.lo _ _ hb1)
  have own_b1_2 : Own W2 b1_2 [(.int .u8 (x.k)), (.int .i64 (x.n)), (.string (x.t)), (.slice cn0a (x.ns.length) cn0c), (.slice ci0a (x.xs.length) ci0c)] 33 := own_b1_2
  have ne_b2_2_b1_2 : b2_2 ≠ b1_2 := fun h => by have := hg.inj _ _ _ hb2 (h ▸ hb1); cases this
  replace D_cn0 := sa_more D_cn0 hk [b2_2, b1_2] (in_cons (hg.lo _ _ hb2) (in_cons (hg.lo _ _ hb1) in_nil))
  replace D_ci0 := sa_more D_ci0 hk [b2_2, b1_2] (in_cons (hg.lo _ _ hb2) (in_cons (hg.lo _ _ hb1) in_nil))
  replace kw := kw.x hk
  clear hR hk hg hP hb2 hb1
  refine tail_nil (hK1 _ _ ?_)
  refine wp_seq_k fun K3 hK3 => ?_
  refine rg mixed y2 zz2 ?_
  refine .i (fo 0 (hbs rfl e1) Try.underlying33 rfl sz5 rfl) ?_
  refine .i (lo1 (hlc rfl) own_b1_2 trivial agg5 sz5 rfl) ?_
  refine .i (fo 1 (hbs rfl e1) Try.underlying33 rfl sz2 rfl) ?_
  refine .i (lo1 (hlc rfl) own_b1_2 trivial agg2 sz2 rfl) ?_
  refine .i (fo 2 (hbs rfl e1) Try.underlying33 rfl sz9 rfl) ?_
  refine .i (lo1 (hlc rfl) own_b1_2 trivial agg9 sz9 rfl) ?_
  refine .i (fo 3 (hbs rfl e1) Try.underlying33 rfl sz23 rfl) ?_
  refine .i (lo1 (hlc rfl) own_b1_2 trivial agg23 sz23 rfl) ?_
  refine .da (X := Fr W2) (e := strsD (x.ns)) (sp_call1 (φ1 := IsD (SA w S [b2_2, b1_2]) (strsD (x.ns))) ent136 ((hlc rfl).dat D_cn0 sub_all) (fun g u1 W hk hgk h1 => (clone_ok (x.ns) (by omega) W _ _ h1).mono (ret_fr hk hgk))) ?_
  refine .op (φ := IsHole (fun v => .agg #[(.int .u8 (x.k)), (.int .i64 (x.n)), (.string (x.t)), v, (.slice none 0 0)]) (IsD (Fr W2) (strsD (x.ns)))) (st_hole (st_d sub_all)) (sp_build1 (vs := [(0, some (.int .u8 (x.k))), (1, some (.int .i64 (x.n))), (2, some (.string (x.t))), (3, none)]) (cells := fun v => #[(.int .u8 (x.k)), (.int .i64 (x.n)), (.string (x.t)), v, (.slice none 0 0)]) Try.underlying33 z33 (pl33 Try.underlying33) (hlc rfl) (fun _ => by simp [Op.operands]) sl_strs ⟨rfl, (hlc rfl), ⟨rfl, (hlc rfl), ⟨rfl, (hlc rfl), ⟨rfl, rfl, trivial⟩⟩⟩⟩ (fun _ _ _ => rfl)) ?_
  refine .alloc z33 ?_
  refine .done ⟨by kernel_rfl, fun a4 g W4 y4 zz4 hk hg hV hR hP => ?_⟩
  obtain ⟨⟨b3_4, e3, hb3, own_b3_4⟩, e15, -, -, -, -, -, -, -, -, -, -⟩ := hV
  have lo_b3_4 : w.heap.size ≤ b3_4 := Nat.le_trans kw.size (hg.lo _ _ hb3)
  have ne_b2_2_b3_4 : b2_2 ≠ b3_4 := Nat.ne_of_lt (Nat.lt_of_lt_of_le own_b2_2.lt (hg.lo _ _ hb3))
  have ne_b1_2_b3_4 : b1_2 ≠ b3_4 := Nat.ne_of_lt (Nat.lt_of_lt_of_le own_b1_2.lt (hg.lo _ _ hb3))
  have own_b3_4 : Own W4 b3_4 [(.int .u8 (0)), (.int .i64 (0)), (.string (⟨#[]⟩)), (.slice none 0 0), (.slice none 0 0)] 33 := own_b3_4
  replace e2 := (hR 2 rfl).trans e2
  replace e1 := (hR 1 rfl).trans e1
  replace D_cn0 := sa_more D_cn0 hk [b3_4] (in_cons (hg.lo _ _ hb3) in_nil)
  replace D_ci0 := sa_more D_ci0 hk [b3_4] (in_cons (hg.lo _ _ hb3) in_nil)
  obtain ⟨v15_4a, v15_4n, v15_4c, ev, D_v15_4⟩ := e15
  replace D_v15_4 : Rd W4 (SF w [b3_4, b2_2, b1_2]) (strsD (x.ns)) _ := fr_end (M := [b2_2, b1_2]) D_v15_4 kw [b3_4] (in_cons ⟨_, hb3⟩ in_nil) (in_cons own_b2_2.lt (in_cons own_b1_2.lt in_nil))
  obtain ⟨xa, xc, ev2, D2⟩ := rdS_out D_v15_4
  injection ev2 with h1 h2 h3; subst h1 h2 h3; clear D2
  have e15 : sl a4 15 = (.agg #[(.int .u8 (x.k)), (.int .i64 (x.n)), (.string (x.t)), (.slice v15_4a (x.ns.length) v15_4c), (.slice none 0 0)]) := ev; clear ev
  replace own_b2_2 := own_b2_2.ext hk
  replace own_b1_2 := own_b1_2.ext hk
  replace kw := kw.x hk
  clear hR hk hg hP hb3
  refine tail_store (b := b3_4) (o := 0) (v := (.agg #[(.int .u8 (x.k)), (.int .i64 (x.n)), (.string (x.t)), (.slice v15_4a (x.ns.length) v15_4c), (.slice none 0 0)])) e3 e15 sz33 rfl own_b3_4 (lbr rfl) (all_cons rfl (all_cons rfl (all_cons rfl (all_cons rfl (all_cons rfl all_nil))))) (fun W5 hs own_b3_4 => ?_)
  have own_b3_4 : Own W5 b3_4 [(.int .u8 (x.k)), (.int .i64 (x.n)), (.string (x.t)), (.slice v15_4a (x.ns.length) v15_4c), (.slice none 0 0)] 33 := own_b3_4
  replace own_b2_2 := own_store own_b2_2 hs ne_b2_2_b3_4
  replace own_b1_2 := own_store own_b1_2 hs ne_b1_2_b3_4
  replace D_cn0 := sa_store D_cn0 hs (by simp)
  replace D_ci0 := sa_store D_ci0 hs (by simp)
  replace D_v15_4 := sf_store D_v15_4 hs (by simp)
  replace kw := keeps_store kw hs lo_b3_4
  clear hs
  refine tail_nil (hK3 _ _ ?_)
  refine wp_seq_k fun K6 hK6 => ?_
  refine wp_seq_k fun K7 hK7 => ?_
  refine rg mixed y4 zz4 ?_
  refine .i (fo 4 (hbs rfl e1) Try.underlying33 rfl sz31 rfl) ?_
  refine .i (lo1 (hlc rfl) own_b1_2 trivial agg31 sz31 rfl) ?_
  refine .i (sp_lenVs Try.underlying31 ((hlc rfl).dat D_ci0 sub_all)) ?_
  refine .i (sp_move Has.cst) ?_
  refine .done ⟨by kernel_rfl, fun a8 g W8 y8 zz8 hk hg hV hR hP => ?_⟩
  obtain ⟨e19, e18, e17, -, -⟩ := hV
  replace e2 := (hR 2 rfl).trans e2
  replace e3 := (hR 3 rfl).trans e3
  replace D_cn0 := D_cn0.ext hk
  replace D_ci0 := D_ci0.ext hk
  replace D_v15_4 := D_v15_4.ext hk
  have e17 : sl a8 17 = (.slice ci0a (x.xs.length) ci0c) := e17
  have e18 : sl a8 18 = (.int .i64 (x.xs.length)) := e18
  have e19 : sl a8 19 = (.int .i64 (0)) := e19
  replace own_b2_2 := own_b2_2.ext hk
  replace own_b1_2 := own_b1_2.ext hk
  replace own_b3_4 := own_b3_4.ext hk
  replace kw := kw.x hk
  clear hR hk hg hP
  refine tail_nil (hK7 _ _ ?_)
  refine wp_block ?_
  replace D_ci0 := sa_less (M' := [b3_4, b2_2]) D_ci0 (ls_keep (ls_keep ls_nil))
  replace D_v15_4 := sf_less (M' := [b3_4, b2_2]) D_v15_4 (ls_keep (ls_keep ls_nil))
  have A_ar9 : Arr W8 w.heap.size 33 5 (SF w (blks none ++ (b3_4 :: (b2_2 :: [])))) (List.map V.d ([])) (.slice none 0 0) none := arr_nil _ _ _ _ _
  replace D_ci0 : Rd W8 (SA w S (blks none ++ (b3_4 :: (b2_2 :: [])))) (valsD (x.xs)) (.slice ci0a (x.xs.length) ci0c) := D_ci0
  replace D_v15_4 : Rd W8 (SF w (blks none ++ (b3_4 :: (b2_2 :: [])))) (strsD (x.ns)) (.slice v15_4a (x.ns.length) v15_4c) := D_v15_4
  have av_ci0 := hav _ _ _ _ _ rfl
  have hvx := rdV_xs hv
  refine wp_for (x.xs.length) (fun k a W => ∃ (ys : List V), ∃ (va4_10 : Value), ∃ (hd4_10 : Option Nat), a.tmps.size = 36 ∧ a.defers = [] ∧ Keeps All w W ∧ sl a 2 = (.pointer (some ⟨b2_2, 0, none⟩)) ∧ sl a 3 = (.pointer (some ⟨b3_4, 0, none⟩)) ∧ sl a 17 = (.slice ci0a (x.xs.length) ci0c) ∧ sl a 18 = (.int .i64 (x.xs.length)) ∧ sl a 19 = (.int .i64 ((k : Nat))) ∧ Own W b2_2 [(.int .u8 (0)), (.int .i64 (0)), (.string (⟨#[]⟩)), (.slice none 0 0), (.slice none 0 0)] 33 ∧ Own W b3_4 [(.int .u8 (x.k)), (.int .i64 (x.n)), (.string (x.t)), (.slice v15_4a (x.ns.length) v15_4c), va4_10] 33 ∧ Rd W (SA w S (blks hd4_10 ++ (b3_4 :: (b2_2 :: [])))) (valsD (x.xs)) (.slice ci0a (x.xs.length) ci0c) ∧ Rd W (SF w (blks hd4_10 ++ (b3_4 :: (b2_2 :: [])))) (strsD (x.ns)) (.slice v15_4a (x.ns.length) v15_4c) ∧ Arr W w.heap.size 33 5 (SF w (blks hd4_10 ++ (b3_4 :: (b2_2 :: [])))) (List.map V.d (ys)) va4_10 hd4_10 ∧ b2_2 ∉ blks hd4_10 ∧ b3_4 ∉ blks hd4_10 ∧ (CpL x.xs ys k)) ⟨[], (.slice none 0 0), none, y8, zz8, kw, e2, e3, e17, e18, (e19.trans (congrArg (Value.int .i64) (rfl))), own_b2_2, own_b3_4, D_ci0, D_v15_4, A_ar9, nb_none, nb_none, cpL_nil _⟩ ?_
  clear kw e2 e3 e17 e18 e19 own_b2_2 own_b3_4 D_ci0 D_v15_4 A_ar9
  rintro k a10 W10 hkk ⟨ys, va4_10, hd4_10, y10, zz10, kw, e2, e3, e17, e18, e19, own_b2_2, own_b3_4, D_ci0, D_v15_4, A4_10, nb_b2_2_ar9_10, nb_b3_4_ar9_10, hys⟩
  refine wp_seq_k fun K11 hK11 => ?_
  refine rg mixed y10 zz10 ?_
  refine .i (sp_lss (hbs rfl e19) (hbs rfl e18)) ?_
  refine .done ⟨by kernel_rfl, fun a12 g W12 y12 zz12 hk hg hV hR hP => ?_⟩
  obtain ⟨e20, -⟩ := hV
  replace e2 := (hR 2 rfl).trans e2
  replace e3 := (hR 3 rfl).trans e3
  replace e17 := (hR 17 rfl).trans e17
  replace e18 := (hR 18 rfl).trans e18
  replace e19 := (hR 19 rfl).trans e19
  replace A4_10 := A4_10.ext hk
  replace D_ci0 := D_ci0.ext hk
  replace D_v15_4 := D_v15_4.ext hk
  replace e20 := e20.q
  replace own_b2_2 := own_b2_2.ext hk
  replace own_b3_4 := own_b3_4.ext hk
  replace kw := kw.x hk
  clear hR hk hg hP
  refine tail_nil (hK11 _ _ ?_)
  refine wp_seq_k fun K13 hK13 => ?_
  refine wp_cond_split e20 (fun hc => ?_) (fun hc => ?_)
  ·
   have hlt : k < x.xs.length := by simpa using hc
   have hwm := wts_mem hlt
   have hwc := cnts_wts (x.xs[k]).xs
   have hwe := wt_eq x.xs[k]
   obtain ⟨bq, oq, nqa, nqc, xqa, xqc, evq, hltq, hcq, htq, hnq, hxq, hfq, av_xq⟩ := el_qav hP av_ci0 hvx hlt
   have D_nq : Rd W12 (SA w S (blks hd4_10 ++ (b3_4 :: (b2_2 :: [])))) (strsD ((x.xs[k]'hlt).ns)) (.slice nqa (((x.xs[k]'hlt).ns).length) nqc) := (rd_argQ hnq (in_app A4_10.ge (in_cons lo_b3_4 (in_cons lo_b2_2 in_nil)))).ext kw
   have D_xq : Rd W12 (SA w S (blks hd4_10 ++ (b3_4 :: (b2_2 :: [])))) (valsD ((x.xs[k]'hlt).xs)) (.slice xqa (((x.xs[k]'hlt).xs).length) xqc) := (rd_argQ hxq (in_app A4_10.ge (in_cons lo_b3_4 (in_cons lo_b2_2 in_nil)))).ext kw
   refine wp_skip (hK13 _ _ ?_)
   refine wp_seq_k fun K14 hK14 => ?_
   refine wp_block ?_
   refine wp_seq_k fun K15 hK15 => ?_
   refine rg mixed y12 zz12 ?_
   refine .i (v := (.pointer (some ⟨bq, oq + k * 5, none⟩))) (sp_indexQ (i := k) evq (hbs rfl e17) (hbs rfl e19) Try.underlying31 sz33 hlt) ?_
   refine .i (v := (.agg #[(.int .u8 ((x.xs[k]'hlt).k)), (.int .i64 ((x.xs[k]'hlt).n)), (.string ((x.xs[k]'hlt).t)), (.slice nqa (((x.xs[k]'hlt).ns).length) nqc), (.slice xqa (((x.xs[k]'hlt).xs).length) xqc)])) (sp_loadQ5 kw (hlc rfl) agg33 sz33 hcq hltq) ?_
   refine .alloc z33 ?_
   refine .done ⟨by kernel_rfl, fun a16 g W16 y16 zz16 hk hg hV hR hP => ?_⟩
   obtain ⟨⟨b5_16, e5, hb5, own_b5_16⟩, e22, -, -⟩ := hV
   have lo_b5_16 : w.heap.size ≤ b5_16 := Nat.le_trans kw.size (hg.lo _ _ hb5)
   have ne_b2_2_b5_16 : b2_2 ≠ b5_16 := Nat.ne_of_lt (Nat.lt_of_lt_of_le own_b2_2.lt (hg.lo _ _ hb5))
   have ne_b3_4_b5_16 : b3_4 ≠ b5_16 := Nat.ne_of_lt (Nat.lt_of_lt_of_le own_b3_4.lt (hg.lo _ _ hb5))
   have own_b5_16 : Own W16 b5_16 [(.int .u8 (0)), (.int .i64 (0)), (.string (⟨#[]⟩)), (.slice none 0 0), (.slice none 0 0)] 33 := own_b5_16
   replace e2 := (hR 2 rfl).trans e2
   replace e3 := (hR 3 rfl).trans e3
   replace e17 := (hR 17 rfl).trans e17
   replace e18 := (hR 18 rfl).trans e18
   replace e19 := (hR 19 rfl).trans e19
   have nb_b5_16_ar9 : b5_16 ∉ blks hd4_10 := nb_lt A4_10.lt (hg.lo _ _ hb5)
   replace A4_10 : Arr W16 w.heap.size 33 5 (SF w (b5_16 :: (blks hd4_10 ++ (b3_4 :: (b2_2 :: []))))) (List.map V.d (ys)) va4_10 hd4_10 := arrF_more A4_10 hk [b5_16] (in_cons (hg.lo _ _ hb5) in_nil)
   replace D_ci0 : Rd W16 (SA w S (b5_16 :: (blks hd4_10 ++ (b3_4 :: (b2_2 :: []))))) (valsD (x.xs)) (.slice ci0a (x.xs.length) ci0c) := sa_more D_ci0 hk [b5_16] (in_cons (hg.lo _ _ hb5) in_nil)
   replace D_v15_4 : Rd W16 (SF w (b5_16 :: (blks hd4_10 ++ (b3_4 :: (b2_2 :: []))))) (strsD (x.ns)) (.slice v15_4a (x.ns.length) v15_4c) := sf_more D_v15_4 hk [b5_16] (in_cons (hg.lo _ _ hb5) in_nil)
   replace D_nq : Rd W16 (SA w S (b5_16 :: (blks hd4_10 ++ (b3_4 :: (b2_2 :: []))))) (strsD ((x.xs[k]'hlt).ns)) (.slice nqa (((x.xs[k]'hlt).ns).length) nqc) := sa_more D_nq hk [b5_16] (in_cons (hg.lo _ _ hb5) in_nil)
   replace D_xq : Rd W16 (SA w S (b5_16 :: (blks hd4_10 ++ (b3_4 :: (b2_2 :: []))))) (valsD ((x.xs[k]'hlt).xs)) (.slice xqa (((x.xs[k]'hlt).xs).length) xqc) := sa_more D_xq hk [b5_16] (in_cons (hg.lo _ _ hb5) in_nil)
   replace e22 := e22.q
   replace own_b2_2 := own_b2_2.ext hk
   replace own_b3_4 := own_b3_4.ext hk
   replace kw := kw.x hk
   clear hR hk hg hP hb5
   refine tail_store (b := b5_16) (o := 0) (v := (.agg #[(.int .u8 ((x.xs[k]'hlt).k)), (.int .i64 ((x.xs[k]'hlt).n)), (.string ((x.xs[k]'hlt).t)), (.slice nqa (((x.xs[k]'hlt).ns).length) nqc), (.slice xqa (((x.xs[k]'hlt).xs).length) xqc)])) e5 e22 sz33 rfl own_b5_16 (lbr rfl) (all_cons rfl (all_cons rfl (all_cons rfl (all_cons rfl (all_cons rfl all_nil))))) (fun W17 hs own_b5_16 => ?_)
   have own_b5_16 : Own W17 b5_16 [(.int .u8 ((x.xs[k]'hlt).k)), (.int .i64 ((x.xs[k]'hlt).n)), (.string ((x.xs[k]'hlt).t)), (.slice nqa (((x.xs[k]'hlt).ns).length) nqc), (.slice xqa (((x.xs[k]'hlt).xs).length) xqc)] 33 := own_b5_16
   replace own_b2_2 := own_store own_b2_2 hs ne_b2_2_b5_16
   replace own_b3_4 := own_store own_b3_4 hs ne_b3_4_b5_16
   replace D_ci0 := sa_store D_ci0 hs (by simp)
   replace D_v15_4 := sf_store D_v15_4 hs (by simp)
   replace D_nq := sa_store D_nq hs (by simp)
   replace D_xq := sa_store D_xq hs (by simp)
   replace A4_10 := arrF_store A4_10 hs (by simp) nb_b5_16_ar9
   replace kw := keeps_store kw hs lo_b5_16
   clear hs
   refine tail_nil (hK15 _ _ ?_)
   refine wp_seq_k fun K18 hK18 => ?_
   refine wp_seq_k fun K19 hK19 => ?_
   refine rg mixed y16 zz16 ?_
   refine .i (fo 4 (hbs rfl e5) Try.underlying33 rfl sz31 rfl) ?_
   refine .i (lo1 (hlc rfl) own_b5_16 trivial agg31 sz31 rfl) ?_
   refine .op (φ := IsUB) st_ub (sp_call4 (φ1 := Is (.slice xqa (((x.xs[k]'hlt).xs).length) xqc)) (φ2 := Is (.int .i64 (1))) (φ3 := Is (.pointer none)) (φ4 := Is (.bool (false))) ent137 (hlc rfl) Has.cst Has.cst Has.cst (fun g u1 u2 u3 u4 W hk hgk h1 h2 h3 h4 => by have h1 : u1 = _ := h1; subst u1; have h2 : u2 = _ := h2; subst u2; have h3 : u3 = _ := h3; subst u3; have h4 : u4 = _ := h4; subst u4; exact endlessP_all u _ ((x.xs[k]'hlt).xs) (Nat.lt_succ_self _) (1) (by omega) (by omega) (false) _ W _ _ (Nat.le_trans hu (Nat.le_trans kw.size hk.size)) (pin_sa hP hu) av_xq (D_xq.ext hk) (.inl rfl))) ?_
   refine .done ⟨by kernel_rfl, fun a20 g W20 y20 zz20 hk hg hV hR hP => ?_⟩
   obtain ⟨e25, -, -, -⟩ := hV
   replace e2 := (hR 2 rfl).trans e2
   replace e3 := (hR 3 rfl).trans e3
   replace e17 := (hR 17 rfl).trans e17
   replace e18 := (hR 18 rfl).trans e18
   replace e19 := (hR 19 rfl).trans e19
   replace e5 := (hR 5 rfl).trans e5
   obtain ⟨r25_20, e25⟩ := e25
   replace A4_10 := A4_10.ext hk
   replace D_ci0 := D_ci0.ext hk
   replace D_v15_4 := D_v15_4.ext hk
   replace D_nq := D_nq.ext hk
   replace D_xq := D_xq.ext hk
   have e25 : sl a20 25 = (.bool (r25_20)) := e25
   replace own_b2_2 := own_b2_2.ext hk
   replace own_b3_4 := own_b3_4.ext hk
   replace own_b5_16 := own_b5_16.ext hk
   replace kw := kw.x hk
   clear hR hk hg hP
   refine tail_nil (hK19 _ _ ?_)
   refine wp_cond_split e25 (fun hc => ?_) (fun hc => ?_)
   ·
    refine rg mixed y20 zz20 ?_
    refine .i (v := (.agg #[(.int .u8 (0)), (.int .i64 (0)), (.string (⟨#[]⟩)), (.slice none 0 0), (.slice none 0 0)])) (sp_build (vs := []) Try.underlying33 z33 (pl33 Try.underlying33) trivial rfl) ?_
    refine .done ⟨by kernel_rfl, fun a21 g W21 y21 zz21 hk hg hV hR hP => ?_⟩
    obtain ⟨e26, -⟩ := hV
    replace e2 := (hR 2 rfl).trans e2
    replace e3 := (hR 3 rfl).trans e3
    replace e17 := (hR 17 rfl).trans e17
    replace e18 := (hR 18 rfl).trans e18
    replace e19 := (hR 19 rfl).trans e19
    replace e5 := (hR 5 rfl).trans e5
    replace A4_10 := A4_10.ext hk
    replace D_ci0 := D_ci0.ext hk
    replace D_v15_4 := D_v15_4.ext hk
    replace D_nq := D_nq.ext hk
    replace D_xq := D_xq.ext hk
    replace e26 := e26.q
    replace own_b2_2 := own_b2_2.ext hk
    replace own_b3_4 := own_b3_4.ext hk
    replace own_b5_16 := own_b5_16.ext hk
    replace kw := kw.x hk
    clear hR hk hg hP
    refine tail_store (b := b5_16) (o := 0) (v := (.agg #[(.int .u8 (0)), (.int .i64 (0)), (.string (⟨#[]⟩)), (.slice none 0 0), (.slice none 0 0)])) e5 e26 sz33 rfl own_b5_16 (lbr rfl) (all_cons rfl (all_cons rfl (all_cons rfl (all_cons rfl (all_cons rfl all_nil))))) (fun W22 hs own_b5_16 => ?_)
    have own_b5_16 : Own W22 b5_16 [(.int .u8 (0)), (.int .i64 (0)), (.string (⟨#[]⟩)), (.slice none 0 0), (.slice none 0 0)] 33 := own_b5_16
    replace own_b2_2 := own_store own_b2_2 hs ne_b2_2_b5_16
    replace own_b3_4 := own_store own_b3_4 hs ne_b3_4_b5_16
    replace D_ci0 := sa_store D_ci0 hs (by simp)
    replace D_v15_4 := sf_store D_v15_4 hs (by simp)
    replace D_nq := sa_store D_nq hs (by simp)
    replace D_xq := sa_store D_xq hs (by simp)
    replace A4_10 := arrF_store A4_10 hs (by simp) nb_b5_16_ar9
    replace kw := keeps_store kw hs lo_b5_16
    clear hs
    refine tail_nil (hK18 _ _ ?_)
    refine wp_reg (fun k => k ∉ blks hd4_10) (Ψ := fun W => Arr W w.heap.size 33 5 (SF w (b5_16 :: (blks hd4_10 ++ (b3_4 :: (b2_2 :: []))))) (List.map V.d (ys)) va4_10 hd4_10) mixed y21 zz21 (fun W W' k h => h.ext k) A4_10 ?_
    refine .i (fo 4 (hbs rfl e3) Try.underlying33 rfl sz31 rfl) ?_
    refine .i (lo1 (hlc rfl) own_b3_4 nb_b3_4_ar9_10 agg31 sz31 rfl) ?_
    refine .i (v := (.agg #[(.int .u8 (0)), (.int .i64 (0)), (.string (⟨#[]⟩)), (.slice none 0 0), (.slice none 0 0)])) (loA (hbs rfl e5) own_b5_16 nb_b5_16_ar9 agg33 sz33 rfl rfl) ?_
    refine .op (φ := IsD (Fr W22) (V.d (V.mk (0) (0) (⟨#[]⟩) ([]) ([])))) (st_d (sub_frnb (fun b hb => A4_10.lt b hb))) (sp_call1 (φ1 := IsD (SA w S (b5_16 :: (blks hd4_10 ++ (b3_4 :: (b2_2 :: []))))) (V.d (V.mk (0) (0) (⟨#[]⟩) ([]) ([])))) ent138 ((hlc rfl).dat (rdV_mk (lbr rfl) (rd_nil _) (rd_nil _) : Rd W22 (SA w S (b5_16 :: (blks hd4_10 ++ (b3_4 :: (b2_2 :: []))))) (V.d (V.mk (0) (0) (⟨#[]⟩) ([]) ([]))) _) (sub_nb (fun b hb => List.mem_cons_of_mem _ (List.mem_append_left _ hb)))) (fun g u1 W hk hgk h1 => (duplicate_all _ (V.mk (0) (0) (⟨#[]⟩) ([]) ([])) (Nat.le_refl _) (by first | omega | exact Nat.le_of_ble_eq_true (by kernel_rfl)) W _ _ h1).mono (ret_fr hk hgk))) ?_
    refine .op (φ := IsD (SF w (b5_16 :: (blks hd4_10 ++ (b3_4 :: (b2_2 :: []))))) (valsD ([V.mk (0) (0) (⟨#[]⟩) ([]) ([])]))) (st_d (sub_nbF (fun b hb => List.mem_cons_of_mem _ (List.mem_append_left _ hb)))) (sp_bsl (ds := [V.d (V.mk (0) (0) (⟨#[]⟩) ([]) ([]))]) Try.underlying31 sz33 z33 (lbr rfl) (lbr rfl) ⟨rfl, ((hlc rfl).sup (fr_sf kw (in_cons own_b5_16.lt (in_app A4_10.lt (in_cons own_b3_4.lt (in_cons own_b2_2.lt in_nil)))))), trivial⟩ rfl (by intro e he; simp at he; rcases he with rfl <;> exact width_V _) (fr_sf kw (in_cons own_b5_16.lt (in_app A4_10.lt (in_cons own_b3_4.lt (in_cons own_b2_2.lt in_nil)))))) ?_
    refine .appB (ds := List.map V.d (ys)) (es := [V.d (V.mk (0) (0) (⟨#[]⟩) ([]) ([]))]) (X := SF w (b5_16 :: (blks hd4_10 ++ (b3_4 :: (b2_2 :: []))))) Try.underlying31 inf33 (lbr rfl) (hlc rfl) (hlc rfl) (sub_nbF (fun b hb => List.mem_cons_of_mem _ (List.mem_append_left _ hb))) (by simp [hys.1, maxLen]; omega) (by simp [hys.1]; omega) kw.size ?_
    refine .i (fo 4 (hbs rfl e3) Try.underlying33 rfl sz31 rfl) ?_
    refine .done ⟨by kernel_rfl, fun a23 g W23 y23 zz23 hk hg hV hR hP => ?_⟩
    obtain ⟨e33, e32, -, -, -, -, -, -⟩ := hV
    replace e2 := (hR 2 rfl).trans e2
    replace e3 := (hR 3 rfl).trans e3
    replace e17 := (hR 17 rfl).trans e17
    replace e18 := (hR 18 rfl).trans e18
    replace e19 := (hR 19 rfl).trans e19
    obtain ⟨v32_23, ev⟩ : ∃ v, sl a23 32 = v := ⟨_, rfl⟩
    rw [ev] at e32
    obtain ⟨hd32_23, A_32_23, hf32_23⟩ := e32
    have e32 := ev; clear ev
    obtain ⟨v32_23a, v32_23n, v32_23c, ev⟩ := arr_sl A_32_23; subst ev
    replace A_32_23 := arrF_new (M' := (b5_16 :: (blks hd32_23 ++ (b3_4 :: (b2_2 :: []))))) A_32_23 (rep_cons (rep_app (rep_q fun _ h => h) (rep_cons (rep_cons rep_nil))))
    replace A_32_23 : Arr W23 w.heap.size 33 5 (SF w (b5_16 :: (blks hd32_23 ++ (b3_4 :: (b2_2 :: []))))) (List.map V.d (ys ++ [V.mk (0) (0) (⟨#[]⟩) ([]) ([])])) (.slice v32_23a v32_23n v32_23c) hd32_23 := by first | exact A_32_23 | (rw [List.map_append]; exact A_32_23)
    have nb_b2_2_23 : b2_2 ∉ blks hd32_23 := nb_new nb_b2_2_ar9_10 own_b2_2.lt hf32_23
    have nb_b3_4_23 : b3_4 ∉ blks hd32_23 := nb_new nb_b3_4_ar9_10 own_b3_4.lt hf32_23
    have nb_b5_16_23 : b5_16 ∉ blks hd32_23 := nb_new nb_b5_16_ar9 own_b5_16.lt hf32_23
    replace D_ci0 := sa_app (M' := (b5_16 :: (blks hd32_23 ++ (b3_4 :: (b2_2 :: []))))) D_ci0 hk (fun b hb => List.mem_cons_of_mem _ (List.mem_append_left _ hb)) (rep_cons (rep_app hf32_23 (rep_cons (rep_cons rep_nil))))
    replace D_v15_4 := sf_app (M' := (b5_16 :: (blks hd32_23 ++ (b3_4 :: (b2_2 :: []))))) D_v15_4 hk (fun b hb => List.mem_cons_of_mem _ (List.mem_append_left _ hb)) (rep_cons (rep_app hf32_23 (rep_cons (rep_cons rep_nil))))
    replace D_nq := sa_app (M' := (b5_16 :: (blks hd32_23 ++ (b3_4 :: (b2_2 :: []))))) D_nq hk (fun b hb => List.mem_cons_of_mem _ (List.mem_append_left _ hb)) (rep_cons (rep_app hf32_23 (rep_cons (rep_cons rep_nil))))
    replace D_xq := sa_app (M' := (b5_16 :: (blks hd32_23 ++ (b3_4 :: (b2_2 :: []))))) D_xq hk (fun b hb => List.mem_cons_of_mem _ (List.mem_append_left _ hb)) (rep_cons (rep_app hf32_23 (rep_cons (rep_cons rep_nil))))
    replace own_b2_2 := own_app own_b2_2 hk nb_b2_2_ar9_10
    replace own_b3_4 := own_app own_b3_4 hk nb_b3_4_ar9_10
    replace own_b5_16 := own_app own_b5_16 hk nb_b5_16_ar9
    replace kw := keeps_app kw hk A4_10.ge
    have e33 : sl a23 33 = (.pointer (some ⟨b3_4, 4, none⟩)) := e33
    clear hR hk hg hP hf32_23 A4_10
    refine tail_store (b := b3_4) (o := 4) (v := (.slice v32_23a v32_23n v32_23c)) e33 e32 sz31 rfl own_b3_4 (lbr rfl) (all_cons rfl all_nil) (fun W24 hs own_b3_4 => ?_)
    have own_b3_4 : Own W24 b3_4 [(.int .u8 (x.k)), (.int .i64 (x.n)), (.string (x.t)), (.slice v15_4a (x.ns.length) v15_4c), (.slice v32_23a v32_23n v32_23c)] 33 := own_b3_4
    replace own_b2_2 := own_store own_b2_2 hs ne_b2_2_b3_4
    replace own_b5_16 := own_store own_b5_16 hs ne_b3_4_b5_16.symm
    replace D_ci0 := sa_store D_ci0 hs (by simp)
    replace D_v15_4 := sf_store D_v15_4 hs (by simp)
    replace D_nq := sa_store D_nq hs (by simp)
    replace D_xq := sa_store D_xq hs (by simp)
    replace A_32_23 := arrF_store A_32_23 hs (by simp) nb_b3_4_23
    replace kw := keeps_store kw hs lo_b3_4
    clear hs
    refine tail_nil (hK14 _ _ ?_)
    refine rg mixed y23 zz23 ?_
    refine .i (sp_add (hbs rfl e19) Has.cst (i64_in (by omega))) ?_
    refine .i (sp_move (hlc rfl)) ?_
    refine .done ⟨by kernel_rfl, fun a25 g W25 y25 zz25 hk hg hV hR hP => ?_⟩
    obtain ⟨e19, -, -⟩ := hV
    replace e2 := (hR 2 rfl).trans e2
    replace e3 := (hR 3 rfl).trans e3
    replace e17 := (hR 17 rfl).trans e17
    replace e18 := (hR 18 rfl).trans e18
    replace A_32_23 := A_32_23.ext hk
    replace D_ci0 := D_ci0.ext hk
    replace D_v15_4 := D_v15_4.ext hk
    replace D_nq := D_nq.ext hk
    replace D_xq := D_xq.ext hk
    replace e19 := e19.q
    replace own_b2_2 := own_b2_2.ext hk
    replace own_b3_4 := own_b3_4.ext hk
    replace own_b5_16 := own_b5_16.ext hk
    replace kw := kw.x hk
    clear hR hk hg hP
    exact tail_nil ⟨hlt, (ys ++ [V.mk (0) (0) (⟨#[]⟩) ([]) ([])]), (.slice v32_23a v32_23n v32_23c), hd32_23, y25, zz25, kw, e2, e3, e17, e18, (e19.trans (congrArg (Value.int .i64) (by simp))), own_b2_2, own_b3_4, (sa_less D_ci0 (ls_skip (ls_keepA (ls_keep (ls_keep ls_nil))))), (sf_less D_v15_4 (ls_skip (ls_keepA (ls_keep (ls_keep ls_nil))))), (arrF_less A_32_23 (ls_skip (ls_keepA (ls_keep (ls_keep ls_nil))))), nb_b2_2_23, nb_b3_4_23, (cpL_step hys hlt (by first | exact .inl rfl | exact .inr rfl))⟩
   ·
    refine wp_skip (hK18 _ _ ?_)
    refine wp_reg (fun k => k ∉ blks hd4_10) (Ψ := fun W => Arr W w.heap.size 33 5 (SF w (b5_16 :: (blks hd4_10 ++ (b3_4 :: (b2_2 :: []))))) (List.map V.d (ys)) va4_10 hd4_10) mixed y20 zz20 (fun W W' k h => h.ext k) A4_10 ?_
    refine .i (fo 4 (hbs rfl e3) Try.underlying33 rfl sz31 rfl) ?_
    refine .i (lo1 (hlc rfl) own_b3_4 nb_b3_4_ar9_10 agg31 sz31 rfl) ?_
    refine .i (v := (.agg #[(.int .u8 ((x.xs[k]'hlt).k)), (.int .i64 ((x.xs[k]'hlt).n)), (.string ((x.xs[k]'hlt).t)), (.slice nqa (((x.xs[k]'hlt).ns).length) nqc), (.slice xqa (((x.xs[k]'hlt).xs).length) xqc)])) (loA (hbs rfl e5) own_b5_16 nb_b5_16_ar9 agg33 sz33 rfl rfl) ?_
    refine .op (φ := IsD (Fr W20) (V.d ((x.xs[k]'hlt)))) (st_d (sub_frnb (fun b hb => A4_10.lt b hb))) (sp_call1 (φ1 := IsD (SA w S (b5_16 :: (blks hd4_10 ++ (b3_4 :: (b2_2 :: []))))) (V.d ((x.xs[k]'hlt)))) ent138 ((hlc rfl).dat (rdV_in (x := (x.xs[k]'hlt)) htq D_nq D_xq : Rd W20 (SA w S (b5_16 :: (blks hd4_10 ++ (b3_4 :: (b2_2 :: []))))) (V.d ((x.xs[k]'hlt))) _) (sub_nb (fun b hb => List.mem_cons_of_mem _ (List.mem_append_left _ hb)))) (fun g u1 W hk hgk h1 => (duplicate_all _ ((x.xs[k]'hlt)) (Nat.le_refl _) (by first | omega | exact Nat.le_of_ble_eq_true (by kernel_rfl)) W _ _ h1).mono (ret_fr hk hgk))) ?_
    refine .op (φ := IsD (SF w (b5_16 :: (blks hd4_10 ++ (b3_4 :: (b2_2 :: []))))) (valsD ([(x.xs[k]'hlt)]))) (st_d (sub_nbF (fun b hb => List.mem_cons_of_mem _ (List.mem_append_left _ hb)))) (sp_bsl (ds := [V.d ((x.xs[k]'hlt))]) Try.underlying31 sz33 z33 (lbr rfl) (lbr rfl) ⟨rfl, ((hlc rfl).sup (fr_sf kw (in_cons own_b5_16.lt (in_app A4_10.lt (in_cons own_b3_4.lt (in_cons own_b2_2.lt in_nil)))))), trivial⟩ rfl (by intro e he; simp at he; rcases he with rfl <;> exact width_V _) (fr_sf kw (in_cons own_b5_16.lt (in_app A4_10.lt (in_cons own_b3_4.lt (in_cons own_b2_2.lt in_nil)))))) ?_
    refine .appB (ds := List.map V.d (ys)) (es := [V.d ((x.xs[k]'hlt))]) (X := SF w (b5_16 :: (blks hd4_10 ++ (b3_4 :: (b2_2 :: []))))) Try.underlying31 inf33 (lbr rfl) (hlc rfl) (hlc rfl) (sub_nbF (fun b hb => List.mem_cons_of_mem _ (List.mem_append_left _ hb))) (by simp [hys.1, maxLen]; omega) (by simp [hys.1]; omega) kw.size ?_
    refine .i (fo 4 (hbs rfl e3) Try.underlying33 rfl sz31 rfl) ?_
    refine .done ⟨by kernel_rfl, fun a26 g W26 y26 zz26 hk hg hV hR hP => ?_⟩
    obtain ⟨e33, e32, -, -, -, -, -, -⟩ := hV
    replace e2 := (hR 2 rfl).trans e2
    replace e3 := (hR 3 rfl).trans e3
    replace e17 := (hR 17 rfl).trans e17
    replace e18 := (hR 18 rfl).trans e18
    replace e19 := (hR 19 rfl).trans e19
    obtain ⟨v32_26, ev⟩ : ∃ v, sl a26 32 = v := ⟨_, rfl⟩
    rw [ev] at e32
    obtain ⟨hd32_26, A_32_26, hf32_26⟩ := e32
    have e32 := ev; clear ev
    obtain ⟨v32_26a, v32_26n, v32_26c, ev⟩ := arr_sl A_32_26; subst ev
    replace A_32_26 := arrF_new (M' := (b5_16 :: (blks hd32_26 ++ (b3_4 :: (b2_2 :: []))))) A_32_26 (rep_cons (rep_app (rep_q fun _ h => h) (rep_cons (rep_cons rep_nil))))
    replace A_32_26 : Arr W26 w.heap.size 33 5 (SF w (b5_16 :: (blks hd32_26 ++ (b3_4 :: (b2_2 :: []))))) (List.map V.d (ys ++ [(x.xs[k]'hlt)])) (.slice v32_26a v32_26n v32_26c) hd32_26 := by first | exact A_32_26 | (rw [List.map_append]; exact A_32_26)
    have nb_b2_2_26 : b2_2 ∉ blks hd32_26 := nb_new nb_b2_2_ar9_10 own_b2_2.lt hf32_26
    have nb_b3_4_26 : b3_4 ∉ blks hd32_26 := nb_new nb_b3_4_ar9_10 own_b3_4.lt hf32_26
    have nb_b5_16_26 : b5_16 ∉ blks hd32_26 := nb_new nb_b5_16_ar9 own_b5_16.lt hf32_26
    replace D_ci0 := sa_app (M' := (b5_16 :: (blks hd32_26 ++ (b3_4 :: (b2_2 :: []))))) D_ci0 hk (fun b hb => List.mem_cons_of_mem _ (List.mem_append_left _ hb)) (rep_cons (rep_app hf32_26 (rep_cons (rep_cons rep_nil))))
    replace D_v15_4 := sf_app (M' := (b5_16 :: (blks hd32_26 ++ (b3_4 :: (b2_2 :: []))))) D_v15_4 hk (fun b hb => List.mem_cons_of_mem _ (List.mem_append_left _ hb)) (rep_cons (rep_app hf32_26 (rep_cons (rep_cons rep_nil))))
    replace D_nq := sa_app (M' := (b5_16 :: (blks hd32_26 ++ (b3_4 :: (b2_2 :: []))))) D_nq hk (fun b hb => List.mem_cons_of_mem _ (List.mem_append_left _ hb)) (rep_cons (rep_app hf32_26 (rep_cons (rep_cons rep_nil))))
    replace D_xq := sa_app (M' := (b5_16 :: (blks hd32_26 ++ (b3_4 :: (b2_2 :: []))))) D_xq hk (fun b hb => List.mem_cons_of_mem _ (List.mem_append_left _ hb)) (rep_cons (rep_app hf32_26 (rep_cons (rep_cons rep_nil))))
    replace own_b2_2 := own_app own_b2_2 hk nb_b2_2_ar9_10
    replace own_b3_4 := own_app own_b3_4 hk nb_b3_4_ar9_10
    replace own_b5_16 := own_app own_b5_16 hk nb_b5_16_ar9
    replace kw := keeps_app kw hk A4_10.ge
    have e33 : sl a26 33 = (.pointer (some ⟨b3_4, 4, none⟩)) := e33
    clear hR hk hg hP hf32_26 A4_10
    refine tail_store (b := b3_4) (o := 4) (v := (.slice v32_26a v32_26n v32_26c)) e33 e32 sz31 rfl own_b3_4 (lbr rfl) (all_cons rfl all_nil) (fun W27 hs own_b3_4 => ?_)
    have own_b3_4 : Own W27 b3_4 [(.int .u8 (x.k)), (.int .i64 (x.n)), (.string (x.t)), (.slice v15_4a (x.ns.length) v15_4c), (.slice v32_26a v32_26n v32_26c)] 33 := own_b3_4
    replace own_b2_2 := own_store own_b2_2 hs ne_b2_2_b3_4
    replace own_b5_16 := own_store own_b5_16 hs ne_b3_4_b5_16.symm
    replace D_ci0 := sa_store D_ci0 hs (by simp)
    replace D_v15_4 := sf_store D_v15_4 hs (by simp)
    replace D_nq := sa_store D_nq hs (by simp)
    replace D_xq := sa_store D_xq hs (by simp)
    replace A_32_26 := arrF_store A_32_26 hs (by simp) nb_b3_4_26
    replace kw := keeps_store kw hs lo_b3_4
    clear hs
    refine tail_nil (hK14 _ _ ?_)
    refine rg mixed y26 zz26 ?_
    refine .i (sp_add (hbs rfl e19) Has.cst (i64_in (by omega))) ?_
    refine .i (sp_move (hlc rfl)) ?_
    refine .done ⟨by kernel_rfl, fun a28 g W28 y28 zz28 hk hg hV hR hP => ?_⟩
    obtain ⟨e19, -, -⟩ := hV
    replace e2 := (hR 2 rfl).trans e2
    replace e3 := (hR 3 rfl).trans e3
    replace e17 := (hR 17 rfl).trans e17
    replace e18 := (hR 18 rfl).trans e18
    replace A_32_26 := A_32_26.ext hk
    replace D_ci0 := D_ci0.ext hk
    replace D_v15_4 := D_v15_4.ext hk
    replace D_nq := D_nq.ext hk
    replace D_xq := D_xq.ext hk
    replace e19 := e19.q
    replace own_b2_2 := own_b2_2.ext hk
    replace own_b3_4 := own_b3_4.ext hk
    replace own_b5_16 := own_b5_16.ext hk
    replace kw := kw.x hk
    clear hR hk hg hP
    exact tail_nil ⟨hlt, (ys ++ [(x.xs[k]'hlt)]), (.slice v32_26a v32_26n v32_26c), hd32_26, y28, zz28, kw, e2, e3, e17, e18, (e19.trans (congrArg (Value.int .i64) (by simp))), own_b2_2, own_b3_4, (sa_less D_ci0 (ls_skip (ls_keepA (ls_keep (ls_keep ls_nil))))), (sf_less D_v15_4 (ls_skip (ls_keepA (ls_keep (ls_keep ls_nil))))), (arrF_less A_32_26 (ls_skip (ls_keepA (ls_keep (ls_keep ls_nil))))), nb_b2_2_26, nb_b3_4_26, (cpL_step hys hlt (by first | exact .inl rfl | exact .inr rfl))⟩
  ·
   have hge0 : ¬ k < x.xs.length := by simpa using hc
   have hge : k = x.xs.length := by omega
   rw [hge] at hys
   have D_va4_10 : Rd W12 (SF w [b3_4, b2_2]) (valsD (ys)) va4_10 := arrF_rd A4_10 (ls_skipA (ls_keep (ls_keep ls_nil))) (nin_cons nb_b3_4_ar9_10 (nin_cons nb_b2_2_ar9_10 nin_nil))
   obtain ⟨va4_10a, va4_10c, ev, D2⟩ := rdVs_out D_va4_10
   subst ev; replace D_va4_10 := D2; clear D2
   replace D_ci0 := sa_less (M' := [b3_4, b2_2]) D_ci0 (ls_skipA (ls_keep (ls_keep ls_nil)))
   replace D_v15_4 := sf_less (M' := [b3_4, b2_2]) D_v15_4 (ls_skipA (ls_keep (ls_keep ls_nil)))
   refine wp_exit (hK6 _ _ ?_)
   refine wp_seq_k fun K29 hK29 => ?_
   refine rg mixed y12 zz12 ?_
   refine .i (v := (.agg #[(.int .u8 (x.k)), (.int .i64 (x.n)), (.string (x.t)), (.slice v15_4a (x.ns.length) v15_4c), (.slice va4_10a (ys.length) va4_10c)])) (loA (hbs rfl e3) own_b3_4 trivial agg33 sz33 rfl rfl) ?_
   refine .done ⟨by kernel_rfl, fun a30 g W30 y30 zz30 hk hg hV hR hP => ?_⟩
   obtain ⟨e35, -⟩ := hV
   replace e2 := (hR 2 rfl).trans e2
   replace D_ci0 := D_ci0.ext hk
   replace D_v15_4 := D_v15_4.ext hk
   replace D_va4_10 := D_va4_10.ext hk
   replace e35 := e35.q
   replace own_b2_2 := own_b2_2.ext hk
   replace own_b3_4 := own_b3_4.ext hk
   replace kw := kw.x hk
   clear hR hk hg hP
   refine tail_store (b := b2_2) (o := 0) (v := (.agg #[(.int .u8 (x.k)), (.int .i64 (x.n)), (.string (x.t)), (.slice v15_4a (x.ns.length) v15_4c), (.slice va4_10a (ys.length) va4_10c)])) e2 e35 sz33 rfl own_b2_2 (lbr rfl) (all_cons rfl (all_cons rfl (all_cons rfl (all_cons rfl (all_cons rfl all_nil))))) (fun W31 hs own_b2_2 => ?_)
   have own_b2_2 : Own W31 b2_2 [(.int .u8 (x.k)), (.int .i64 (x.n)), (.string (x.t)), (.slice v15_4a (x.ns.length) v15_4c), (.slice va4_10a (ys.length) va4_10c)] 33 := own_b2_2
   replace own_b3_4 := own_store own_b3_4 hs ne_b2_2_b3_4.symm
   replace D_ci0 := sa_store D_ci0 hs (by simp)
   replace D_v15_4 := sf_store D_v15_4 hs (by simp)
   replace D_va4_10 := sf_store D_va4_10 hs (by simp)
   replace kw := keeps_store kw hs lo_b2_2
   clear hs
   refine tail_nil (hK29 _ _ ?_)
   refine wp_ret ?_
   refine (show bodyPost Try.prog Try.f79 _ .ret _ _ from retC (v := (.agg #[(.int .u8 (x.k)), (.int .i64 (x.n)), (.string (x.t)), (.slice v15_4a (x.ns.length) v15_4c), (.slice va4_10a (ys.length) va4_10c)])) rfl zz30 e2 own_b2_2 agg33 sz33 rfl (fun h => by cases h) rfl ⟨_, rfl, kw, ?_⟩)
   exact ⟨V.mk (x.k) (x.n) (x.t) (x.ns) (ys), ⟨rfl, rfl, rfl, rfl, hys.1, hys.2⟩, sf_fr (rdV_mk ht0 D_v15_4 D_va4_10 : Rd W31 (SF w [b3_4, b2_2]) (V.d (V.mk (x.k) (x.n) (x.t) (x.ns) (ys))) _)⟩
end Go.Proofs.Ytnobijngkpflcaa
namespace Go.Proofs.Ytnobijngkpflcaa
open Go.Eng
set_option maxRecDepth 100000 in
theorem OfP_ok (u : World) (x : V) (hx : x.wt ≤ 1073741824) (hof : ofE x = 0) (w : World) (S : BSet) (v : Value) (hu : u.heap.size ≤ w.heap.size) (hP : Pin u S) (hav : AVv u v) (hv : Rd w S x.d v) : Calls Try.prog 21 #[v] w (Ret w fun r W => ∃ y, Cp x y ∧ PkAt w W 74 y [] 0 r) := by
  have hwx := wt_eq x
  have hwl := wts_len x.xs
  have hwn := wtN_len x.ns
  have hk5 : x.k = 5 ∧ x.ns.length = x.xs.length ∧ asc x.ns = true := by
    unfold ofE at hof
    split at hof
    · cases hof
    · split at hof
      · cases hof
      · rename_i h1 h2
        have h3 : asc x.ns = true := by cases hq : asc x.ns with | true => rfl | false => exact absurd (.inr hq) h2
        exact ⟨by omega, by omega, h3⟩
  obtain ⟨cn0a, cn0c, ci0a, ci0c, ev, ht0, D_cn0, D_ci0⟩ := rdV_out (rd_arg hv)
  subst ev
  refine enter Try.func21 rfl Try.ntmps21 (lbr rfl) fun a0 y0 zz0 harg => ?_
  have e0 : sl a0 0 = (.agg #[(.int .u8 (x.k)), (.int .i64 (x.n)), (.string (x.t)), (.slice cn0a (x.ns.length) cn0c), (.slice ci0a (x.xs.length) ci0c)]) := harg 0 (lbr rfl)
  have kw := Keeps.refl All w
  clear harg
  refine wp_seq_k fun K1 hK1 => ?_
  refine rg mixed y0 zz0 ?_
  refine .boxOp (v := (.agg #[(.int .u8 (x.k)), (.int .i64 (x.n)), (.string (x.t)), (.slice cn0a (x.ns.length) cn0c), (.slice ci0a (x.xs.length) ci0c)])) (hbs rfl e0) ?_
  refine .i (sp_assign Has.cst) ?_
  refine .done ⟨by kernel_rfl, fun a2 g W2 y2 zz2 hk hg hV hR hP => ?_⟩
  obtain ⟨-, ⟨b1_2, e1, hb1, own_b1_2⟩, -⟩ := hV
  have lo_b1_2 : w.heap.size ≤ b1_2 := Nat.le_trans kw.size (hg.lo _ _ hb1)
  have own_b1_2 : Own W2 b1_2 [(.int .u8 (x.k)), (.int .i64 (x.n)), (.string (x.t)), (.slice cn0a (x.ns.length) cn0c), (.slice ci0a (x.xs.length) ci0c)] 33 := own_b1_2
  replace D_cn0 := sa_more D_cn0 hk [b1_2] (in_cons (hg.lo _ _ hb1) in_nil)
  replace D_ci0 := sa_more D_ci0 hk [b1_2] (in_cons (hg.lo _ _ hb1) in_nil)
  replace kw := kw.x hk
  clear hR hk hg hP hb1
  refine tail_nil (hK1 _ _ ?_)
  refine wp_seq_k fun K3 hK3 => ?_
  refine wp_seq_k fun K4 hK4 => ?_
  refine rg mixed y2 zz2 ?_
  refine .i (fo 0 (hbs rfl e1) Try.underlying33 rfl sz5 rfl) ?_
  refine .i (lo1 (hlc rfl) own_b1_2 trivial agg5 sz5 rfl) ?_
  refine .i (sp_neq (hlc rfl) Has.cst) ?_
  refine .done ⟨by kernel_rfl, fun a5 g W5 y5 zz5 hk hg hV hR hP => ?_⟩
  obtain ⟨e6, -, -, -⟩ := hV
  replace e1 := (hR 1 rfl).trans e1
  replace D_cn0 := D_cn0.ext hk
  replace D_ci0 := D_ci0.ext hk
  have e6 : sl a5 6 = (.bool ((x.k : Int) != (5 : Int))) := e6
  replace own_b1_2 := own_b1_2.ext hk
  replace kw := kw.x hk
  clear hR hk hg hP
  refine tail_nil (hK4 _ _ ?_)
  refine wp_cond_split e6 (fun hc => ?_) (fun hc => ?_)
  ·
   exfalso
   simp [hk5.1] at hc
  ·
   refine wp_skip (hK3 _ _ ?_)
   refine wp_seq_k fun K6 hK6 => ?_
   refine wp_seq_k fun K7 hK7 => ?_
   refine rg mixed y5 zz5 ?_
   refine .i (fo 3 (hbs rfl e1) Try.underlying33 rfl sz23 rfl) ?_
   refine .i (lo1 (hlc rfl) own_b1_2 trivial agg23 sz23 rfl) ?_
   refine .i (sp_lenSs Try.underlying23 ((hlc rfl).dat D_cn0 sub_all)) ?_
   refine .i (fo 4 (hbs rfl e1) Try.underlying33 rfl sz31 rfl) ?_
   refine .i (lo1 (hlc rfl) own_b1_2 trivial agg31 sz31 rfl) ?_
   refine .i (sp_lenVs Try.underlying31 ((hlc rfl).dat D_ci0 sub_all)) ?_
   refine .i (sp_neq (hlc rfl) (hlc rfl)) ?_
   refine .done ⟨by kernel_rfl, fun a8 g W8 y8 zz8 hk hg hV hR hP => ?_⟩
   obtain ⟨e15, -, -, -, -, -, -, -⟩ := hV
   replace e1 := (hR 1 rfl).trans e1
   replace D_cn0 := D_cn0.ext hk
   replace D_ci0 := D_ci0.ext hk
   replace e15 := e15.q
   replace own_b1_2 := own_b1_2.ext hk
   replace kw := kw.x hk
   clear hR hk hg hP
   refine tail_nil (hK7 _ _ ?_)
   refine wp_cond_split e15 (fun hc => ?_) (fun hc => ?_)
   ·
    exfalso
    simp [hk5.2.1] at hc
   ·
    refine wp_skip (hK6 _ _ ?_)
    refine wp_seq_k fun K9 hK9 => ?_
    refine wp_seq_k fun K10 hK10 => ?_
    refine rg mixed y8 zz8 ?_
    refine .i (sp_assign Has.cst) ?_
    refine .done ⟨by kernel_rfl, fun a11 g W11 y11 zz11 hk hg hV hR hP => ?_⟩
    obtain ⟨e3, -⟩ := hV
    replace e1 := (hR 1 rfl).trans e1
    replace D_cn0 := D_cn0.ext hk
    replace D_ci0 := D_ci0.ext hk
    have e3 : sl a11 3 = (.int .i64 (1)) := e3
    replace own_b1_2 := own_b1_2.ext hk
    replace kw := kw.x hk
    clear hR hk hg hP
    refine tail_nil (hK10 _ _ ?_)
    refine wp_block ?_
    refine wp_for (x.ns.length) (fun k a W => a.tmps.size = 44 ∧ a.defers = [] ∧ Keeps All w W ∧ sl a 1 = (.pointer (some ⟨b1_2, 0, none⟩)) ∧ sl a 3 = (.int .i64 (((k + 1 : Nat) : Int))) ∧ Own W b1_2 [(.int .u8 (x.k)), (.int .i64 (x.n)), (.string (x.t)), (.slice cn0a (x.ns.length) cn0c), (.slice ci0a (x.xs.length) ci0c)] 33 ∧ Rd W (SA w S [b1_2]) (strsD (x.ns)) (.slice cn0a (x.ns.length) cn0c) ∧ Rd W (SA w S [b1_2]) (valsD (x.xs)) (.slice ci0a (x.xs.length) ci0c)) ⟨y11, zz11, kw, e1, (e3.trans (congrArg (Value.int .i64) (rfl))), own_b1_2, D_cn0, D_ci0⟩ ?_
    clear kw e1 e3 own_b1_2 D_cn0 D_ci0
    rintro k a12 W12 hkk ⟨y12, zz12, kw, e1, e3, own_b1_2, D_cn0, D_ci0⟩
    refine wp_seq_k fun K13 hK13 => ?_
    refine wp_seq_k fun K14 hK14 => ?_
    refine rg mixed y12 zz12 ?_
    refine .i (sp_move (hbs rfl e3)) ?_
    refine .i (fo 3 (hbs rfl e1) Try.underlying33 rfl sz23 rfl) ?_
    refine .i (lo1 (hlc rfl) own_b1_2 trivial agg23 sz23 rfl) ?_
    refine .i (sp_lenSs Try.underlying23 ((hlc rfl).dat D_cn0 sub_all)) ?_
    refine .i (sp_lss (hlc rfl) (hlc rfl)) ?_
    refine .done ⟨by kernel_rfl, fun a15 g W15 y15 zz15 hk hg hV hR hP => ?_⟩
    obtain ⟨e22, -, -, -, -, -⟩ := hV
    replace e1 := (hR 1 rfl).trans e1
    replace e3 := (hR 3 rfl).trans e3
    replace D_cn0 := D_cn0.ext hk
    replace D_ci0 := D_ci0.ext hk
    replace e22 := e22.q
    replace own_b1_2 := own_b1_2.ext hk
    replace kw := kw.x hk
    clear hR hk hg hP
    refine tail_nil (hK14 _ _ ?_)
    refine wp_cond_split e22 (fun hc => ?_) (fun hc => ?_)
    ·
     have hlt : k + 1 < x.ns.length := by have := of_decide_eq_true hc; omega
     refine wp_skip (hK13 _ _ ?_)
     refine wp_seq_k fun K16 hK16 => ?_
     refine wp_block ?_
     refine wp_seq_k fun K17 hK17 => ?_
     refine rg mixed y15 zz15 ?_
     refine .i (fo 3 (hbs rfl e1) Try.underlying33 rfl sz23 rfl) ?_
     refine .i (lo1 (hlc rfl) own_b1_2 trivial agg23 sz23 rfl) ?_
     refine .i (sp_move (hbs rfl e3)) ?_
     refine .i (sp_sub (hlc rfl) Has.cst (i64_in (by omega))) ?_
     refine .rf (sp_indexS (i := k) ((hlc rfl).dat D_cn0 sub_all) (hlc rfl) Try.underlying23 sz9 (by omega) (by omega)) ?_
     refine .i (sp_loadStr (hlc rfl) agg9 sz9) ?_
     refine .i (fo 3 (hbs rfl e1) Try.underlying33 rfl sz23 rfl) ?_
     refine .i (lo1 (hlc rfl) own_b1_2 trivial agg23 sz23 rfl) ?_
     refine .i (sp_move (hbs rfl e3)) ?_
     refine .rf (sp_indexS (i := (k + 1)) ((hlc rfl).dat D_cn0 sub_all) (hlc rfl) Try.underlying23 sz9 rfl hlt) ?_
     refine .i (sp_loadStr (hlc rfl) agg9 sz9) ?_
     refine .i (sp_sGeq (hlc rfl) (hlc rfl)) ?_
     refine .done ⟨by kernel_rfl, fun a18 g W18 y18 zz18 hk hg hV hR hP => ?_⟩
     obtain ⟨e36, -, -, -, -, -, -, -, -, -, -, -, -⟩ := hV
     replace e1 := (hR 1 rfl).trans e1
     replace e3 := (hR 3 rfl).trans e3
     replace D_cn0 := D_cn0.ext hk
     replace D_ci0 := D_ci0.ext hk
     replace e36 := e36.q
     replace own_b1_2 := own_b1_2.ext hk
     replace kw := kw.x hk
     clear hR hk hg hP
     refine tail_nil (hK17 _ _ ?_)
     refine wp_cond_split e36 (fun hc => ?_) (fun hc => ?_)
     ·
      exfalso
      have h1 := (asc_iff x.ns).1 hk5.2.2 k hlt
      simp [h1] at hc
     ·
      refine wp_skip (hK16 _ _ ?_)
      refine rg mixed y18 zz18 ?_
      refine .i (sp_move (hbs rfl e3)) ?_
      refine .i (sp_add (hlc rfl) Has.cst (i64_in (by omega))) ?_
      refine .i (sp_assign (hlc rfl)) ?_
      refine .done ⟨by kernel_rfl, fun a19 g W19 y19 zz19 hk hg hV hR hP => ?_⟩
      obtain ⟨e3, -, -, -⟩ := hV
      replace e1 := (hR 1 rfl).trans e1
      replace D_cn0 := D_cn0.ext hk
      replace D_ci0 := D_ci0.ext hk
      replace e3 := e3.q
      replace own_b1_2 := own_b1_2.ext hk
      replace kw := kw.x hk
      clear hR hk hg hP
      exact tail_nil ⟨by omega, y19, zz19, kw, e1, (e3.trans (congrArg (Value.int .i64) (by omega))), own_b1_2, D_cn0, D_ci0⟩
    ·
     refine wp_exit (hK9 _ _ ?_)
     refine wp_seq_k fun K20 hK20 => ?_
     refine rg mixed y15 zz15 ?_
     refine .i (v := (.agg #[(.int .u8 (x.k)), (.int .i64 (x.n)), (.string (x.t)), (.slice cn0a (x.ns.length) cn0c), (.slice ci0a (x.xs.length) ci0c)])) (loA (hbs rfl e1) own_b1_2 trivial agg33 sz33 rfl rfl) ?_
     refine .op (φ := IsEx (x) (fun yy => IsD (Fr W15) (V.d (yy)))) (st_ex1 fun yy => (st_d sub_all)) (sp_call1 (φ1 := Is (.agg #[(.int .u8 (x.k)), (.int .i64 (x.n)), (.string (x.t)), (.slice cn0a (x.ns.length) cn0c), (.slice ci0a (x.xs.length) ci0c)])) ent79 (hlc rfl) (fun g u1 W hk hgk h1 => by have h1 : u1 = _ := h1; subst u1; exact (CopyP_ok u (x) (by first | omega | exact hx) W _ _ (Nat.le_trans hu (Nat.le_trans kw.size hk.size)) (pin_sa hP hu) hav ((rdV_in (x := x) ht0 D_cn0 D_ci0 : Rd W15 (SA w S [b1_2]) (V.d (x)) _).ext hk)).mono (fun _ _ ⟨v, h1, h2, y, h3, h4⟩ => ⟨v, h1, h2, y, h3, fresh_d hk hgk h4⟩))) ?_
     refine .done ⟨by kernel_rfl, fun a21 g W21 y21 zz21 hk hg hV hR hP => ?_⟩
     obtain ⟨e40, -, -⟩ := hV
     obtain ⟨y40_21, hcp_y40_21, e40⟩ := e40
     replace D_cn0 := D_cn0.ext hk
     replace D_ci0 := D_ci0.ext hk
     obtain ⟨v40_21, ev⟩ : ∃ v, sl a21 40 = v := ⟨_, rfl⟩
     rw [ev] at e40
     have D_v40_21 : Rd W21 (SF w [b1_2]) (V.d (y40_21)) v40_21 := fr_end (M := [b1_2]) e40 kw [] in_nil (in_cons own_b1_2.lt in_nil)
     replace e40 := ev; clear ev
     obtain ⟨cn40_21a, cn40_21c, ci40_21a, ci40_21c, ev, ht_v40_21, D_cn40_21, D_ci40_21⟩ := rdV_out D_v40_21
     subst ev; clear D_v40_21
     replace own_b1_2 := own_b1_2.ext hk
     replace kw := kw.x hk
     clear hR hk hg hP
     refine tail_reg 1 All y21 zz21 st_tr trivial rfl ?_
     refine .mkMap ?_
     refine .done ⟨by kernel_rfl, fun a22 g W22 y22 zz22 hk hg hV hR hP => ?_⟩
     refine tail_nil ?_
     show runTail _ _ _ _ _ _
     obtain ⟨⟨b41_22, e41, hb41, own_b41_22⟩, -⟩ := hV
     have lo_b41_22 : w.heap.size ≤ b41_22 := Nat.le_trans kw.size (hg.lo _ _ hb41)
     have ne_b1_2_b41_22 : b1_2 ≠ b41_22 := Nat.ne_of_lt (Nat.lt_of_lt_of_le own_b1_2.lt (hg.lo _ _ hb41))
     have own_b41_22 : OwnM W22 b41_22 ([]) := own_b41_22
     replace e40 := (hR 40 rfl).trans e40
     replace D_cn40_21 := sf_more D_cn40_21 hk [b41_22] (in_cons (hg.lo _ _ hb41) in_nil)
     replace D_ci40_21 := sf_more D_ci40_21 hk [b41_22] (in_cons (hg.lo _ _ hb41) in_nil)
     replace own_b1_2 := own_b1_2.ext hk
     replace kw := kw.x hk
     clear hR hk hg hP hb41
     refine tail_reg 2 All y22 zz22 st_tr trivial rfl ?_
     refine .i (v := (.agg #[(.int .u8 (y40_21.k)), (.int .i64 (y40_21.n)), (.string (y40_21.t)), (.slice cn40_21a (y40_21.ns.length) cn40_21c), (.slice ci40_21a (y40_21.xs.length) ci40_21c), (.map (some b41_22)), (.int .i64 (0))])) (sp_build (vs := [(0, (.agg #[(.int .u8 (y40_21.k)), (.int .i64 (y40_21.n)), (.string (y40_21.t)), (.slice cn40_21a (y40_21.ns.length) cn40_21c), (.slice ci40_21a (y40_21.xs.length) ci40_21c)])), (1, (.map (some b41_22)))]) Try.underlying74 z74 (pl74 Try.underlying74) ⟨rfl, (hbs rfl e40), rfl, (hbs rfl e41), trivial⟩ (by kernel_rfl)) ?_
     refine .boxOp (v := (.agg #[(.int .u8 (y40_21.k)), (.int .i64 (y40_21.n)), (.string (y40_21.t)), (.slice cn40_21a (y40_21.ns.length) cn40_21c), (.slice ci40_21a (y40_21.xs.length) ci40_21c), (.map (some b41_22)), (.int .i64 (0))])) (hlc rfl) ?_
     refine .done ⟨by kernel_rfl, fun a23 g W23 y23 zz23 hk hg hV hR hP => ?_⟩
     refine tail_nil ?_
     show runTail _ _ _ _ _ _
     obtain ⟨⟨b43_23, e43, hb43, own_b43_23⟩, -, -⟩ := hV
     have lo_b43_23 : w.heap.size ≤ b43_23 := Nat.le_trans kw.size (hg.lo _ _ hb43)
     have ne_b1_2_b43_23 : b1_2 ≠ b43_23 := Nat.ne_of_lt (Nat.lt_of_lt_of_le own_b1_2.lt (hg.lo _ _ hb43))
     have ne_b41_22_b43_23 : b41_22 ≠ b43_23 := Nat.ne_of_lt (Nat.lt_of_lt_of_le own_b41_22.lt (hg.lo _ _ hb43))
     have own_b43_23 : Own W23 b43_23 [(.int .u8 (y40_21.k)), (.int .i64 (y40_21.n)), (.string (y40_21.t)), (.slice cn40_21a (y40_21.ns.length) cn40_21c), (.slice ci40_21a (y40_21.xs.length) ci40_21c), (.map (some b41_22)), (.int .i64 (0))] 74 := own_b43_23
     replace D_cn40_21 := sf_more D_cn40_21 hk [b43_23] (in_cons (hg.lo _ _ hb43) in_nil)
     replace D_ci40_21 := sf_more D_ci40_21 hk [b43_23] (in_cons (hg.lo _ _ hb43) in_nil)
     replace own_b1_2 := own_b1_2.ext hk
     replace own_b41_22 := own_b41_22.ext hk
     replace kw := kw.x hk
     clear hR hk hg hP hb43
     refine tail_assign (v := (.pointer (some ⟨b43_23, 0, none⟩))) e43 (by rw [y23]; exact Nat.le_of_ble_eq_true rfl) (fun a24 y24 zz24 e2 hr => ?_)
     replace y24 := y24.trans y23; replace zz24 := zz24.trans zz23
     replace e43 := (hr 43 (by decide)).trans e43
     clear hr
     refine tail_nil (hK20 _ _ ?_)
     refine wp_ret ?_
     refine (show bodyPost Try.prog Try.f21 _ .ret _ _ from ret1 rfl zz24 e2 ⟨_, rfl, kw, ?_⟩)
     exact ⟨y40_21, hcp_y40_21, b43_23, b41_22, _, _, rfl, lo_b43_23, lo_b41_22, ne_b41_22_b43_23.symm, own_b43_23, own_b41_22, sf_pkf (by simp) D_cn40_21, sf_pkf (by simp) D_ci40_21, ht_v40_21⟩
end Go.Proofs.Ytnobijngkpflcaa
namespace Go.Eng
theorem long_wt {xs : List V} (h : szL xs 0 0 < 20000) : V.wts xs < 20000 := by have := szL_wt xs 0 0 h; omega
end Go.Eng
namespace Go.Proofs.Ytnobijngkpflcaa
open Go.Eng
set_option maxRecDepth 100000 in
set_option maxHeartbeats 2000000 in
theorem PickFirst_ok (u : World) (x : V) (l more : List Cl) (w : World) (S : BSet) (v vl vm : Value) (hu : u.heap.size ≤ w.heap.size) (hP : Pin u S) (hav : AVv u v) (hv : Rd w S x.d v) (h1 : Rd w S (clsD l) vl) (h2 : Rd w S (clsD more) vm) : Calls Try.prog 5 #[v, vl, vm] w (Ret w fun r _ => r = .bool true) := by
  by_cases hof : ofE x = 0
  · skip
    obtain ⟨cn0a, cn0c, ci0a, ci0c, ev, ht0, D_cn0, D_ci0⟩ := rdV_out (rd_arg hv)
    subst ev
    obtain ⟨vla, vlc, ev, D_vl⟩ := rdCls_out (rd_arg h1)
    subst ev
    obtain ⟨vma, vmc, ev, D_vm⟩ := rdCls_out (rd_arg h2)
    subst ev
    refine enter Try.func5 rfl Try.ntmps5 (lbr rfl) fun a0 y0 zz0 harg => ?_
    have e0 : sl a0 0 = (.agg #[(.int .u8 (x.k)), (.int .i64 (x.n)), (.string (x.t)), (.slice cn0a (x.ns.length) cn0c), (.slice ci0a (x.xs.length) ci0c)]) := harg 0 (lbr rfl)
    have e1 : sl a0 1 = (.slice vla (l.length) vlc) := harg 1 (lbr rfl)
    have e2 : sl a0 2 = (.slice vma (more.length) vmc) := harg 2 (lbr rfl)
    have kw := Keeps.refl All w
    clear harg
    refine wp_seq_k fun K1 hK1 => ?_
    refine rg mixed y0 zz0 ?_
    refine .boxOp (v := (.agg #[(.int .u8 (x.k)), (.int .i64 (x.n)), (.string (x.t)), (.slice cn0a (x.ns.length) cn0c), (.slice ci0a (x.xs.length) ci0c)])) (hbs rfl e0) ?_
    refine .i (sp_assign Has.cst) ?_
    refine .done ⟨by kernel_rfl, fun a2 g W2 y2 zz2 hk hg hV hR hP => ?_⟩
    obtain ⟨-, ⟨b3_2, e3, hb3, own_b3_2⟩, -⟩ := hV
    have lo_b3_2 : w.heap.size ≤ b3_2 := Nat.le_trans kw.size (hg.lo _ _ hb3)
    have own_b3_2 : Own W2 b3_2 [(.int .u8 (x.k)), (.int .i64 (x.n)), (.string (x.t)), (.slice cn0a (x.ns.length) cn0c), (.slice ci0a (x.xs.length) ci0c)] 33 := own_b3_2
    replace e1 := (hR 1 rfl).trans e1
    replace e2 := (hR 2 rfl).trans e2
    replace D_cn0 := sa_more D_cn0 hk [b3_2] (in_cons (hg.lo _ _ hb3) in_nil)
    replace D_ci0 := sa_more D_ci0 hk [b3_2] (in_cons (hg.lo _ _ hb3) in_nil)
    replace D_vl := sa_more D_vl hk [b3_2] (in_cons (hg.lo _ _ hb3) in_nil)
    replace D_vm := sa_more D_vm hk [b3_2] (in_cons (hg.lo _ _ hb3) in_nil)
    replace kw := kw.x hk
    clear hR hk hg hP hb3
    refine tail_nil (hK1 _ _ ?_)
    refine wp_seq_k fun K3 hK3 => ?_
    refine wp_seq_k fun K4 hK4 => ?_
    refine rg mixed y2 zz2 ?_
    refine .i (v := (.agg #[(.int .u8 (x.k)), (.int .i64 (x.n)), (.string (x.t)), (.slice cn0a (x.ns.length) cn0c), (.slice ci0a (x.xs.length) ci0c)])) (loA (hbs rfl e3) own_b3_2 trivial agg33 sz33 rfl rfl) ?_
    refine .da (X := SA w S [b3_2]) (e := valsD ([x])) (sp_bsl (ds := [V.d (x)]) Try.underlying31 sz33 z33 (lbr rfl) (lbr rfl) ⟨rfl, ((hlc rfl).dat (rdV_in (x := x) ht0 D_cn0 D_ci0 : Rd W2 (SA w S [b3_2]) (V.d (x)) _) sub_all), trivial⟩ rfl (by intro e he; simp at he; rcases he with rfl <;> exact width_V _) (fr_sa kw (in_cons own_b3_2.lt in_nil))) ?_
    refine .i (v := (.bool (decide (20000 ≤ szL ([x]) 0 0)))) (sp_call1 (φ1 := IsD (SA w S [b3_2]) (valsD ([x]))) ent26 (hlc rfl) (fun g u1 W hk hgk h1 => Long_ok ([x]) W _ _ h1)) ?_
    refine .i (sp_move (hlc rfl)) ?_
    refine .e (t := 14) rfl (hlc rfl) (fun hg => sp_move (hbs rfl e1)) ?_
    refine .e (t := 14) (v := (.bool (decide (5000 ≤ szC l 0)))) rfl (hlc rfl) (fun hg => sp_call1 (φ1 := IsD (SA w S [b3_2]) (clsD (l))) ent27 (((hlc rfl).undE hg).dat D_vl sub_all) (fun g u1 W hk hgk h1 => long11_ok (l) W _ _ h1)) ?_
    refine .i (sp_or (hlc rfl) ((hlc rfl).weak fun hq => hq)) ?_
    refine .i (sp_move (hlc rfl)) ?_
    refine .e (t := 18) rfl (hlc rfl) (fun hg => sp_move (hbs rfl e2)) ?_
    refine .e (t := 18) (v := (.bool (decide (5000 ≤ szC more 0)))) rfl (hlc rfl) (fun hg => sp_call1 (φ1 := IsD (SA w S [b3_2]) (clsD (more))) ent27 (((hlc rfl).undE hg).dat D_vm sub_all) (fun g u1 W hk hgk h1 => long11_ok (more) W _ _ h1)) ?_
    refine .i (sp_or (hlc rfl) ((hlc rfl).weak fun hq => hq)) ?_
    refine .i (sp_move (hlc rfl)) ?_
    refine .e (t := 22) (v := (.bool (true))) rfl (hlc rfl) (fun hg => sp_call0  ent28  (fun g  W hk hgk  => awake11_ok W)) ?_
    refine .e (t := 22) rfl (hlc rfl) (fun hg => sp_not ((hlc rfl).undE hg)) ?_
    refine .i (sp_or (hlc rfl) ((hlc rfl).weak fun hq => hq)) ?_
    refine .done ⟨by kernel_rfl, fun a5 g W5 y5 zz5 hk hg hV hR hP => ?_⟩
    obtain ⟨e25, -, -, -, -, -, -, -, -, -, -, -, -, -, -, -⟩ := hV
    replace e1 := (hR 1 rfl).trans e1
    replace e2 := (hR 2 rfl).trans e2
    replace e3 := (hR 3 rfl).trans e3
    replace D_cn0 := D_cn0.ext hk
    replace D_ci0 := D_ci0.ext hk
    replace D_vl := D_vl.ext hk
    replace D_vm := D_vm.ext hk
    replace e25 := e25.q
    replace own_b3_2 := own_b3_2.ext hk
    replace kw := kw.x hk
    clear hR hk hg hP
    refine tail_nil (hK4 _ _ ?_)
    refine wp_cond_split e25 (fun hc => ?_) (fun hc => ?_)
    ·
     refine wp_seq_k fun K6 hK6 => ?_
     refine rg mixed y5 zz5 ?_
     refine .i (v := (.bool (true))) (sp_call0  ent28  (fun g  W hk hgk  => awake11_ok W)) ?_
     refine .i (sp_assign (hlc rfl)) ?_
     refine .done ⟨by kernel_rfl, fun a7 g W7 y7 zz7 hk hg hV hR hP => ?_⟩
     obtain ⟨e6, -, -⟩ := hV
     replace D_cn0 := D_cn0.ext hk
     replace D_ci0 := D_ci0.ext hk
     replace D_vl := D_vl.ext hk
     replace D_vm := D_vm.ext hk
     have e6 : sl a7 6 = (.bool (true)) := e6
     replace own_b3_2 := own_b3_2.ext hk
     replace kw := kw.x hk
     clear hR hk hg hP
     refine tail_nil (hK6 _ _ ?_)
     refine wp_ret ?_
     refine (show bodyPost Try.prog Try.f5 _ .ret _ _ from ret1 rfl zz7 e6 ⟨_, rfl, kw, ?_⟩)
     exact rfl
    ·
     simp only [Bool.or_eq_false_iff, decide_eq_false_iff_not] at hc
     obtain ⟨⟨⟨hlx, hll⟩, hlm⟩, -⟩ := hc
     have hx : x.wt ≤ 1073741824 := by have := long_wt (Nat.lt_of_not_le hlx); simp only [V.wts] at this; omega
     have hl5 := szC_len l 0 (Nat.lt_of_not_le hll)
     have hm5 := szC_len more 0 (Nat.lt_of_not_le hlm)
     refine wp_skip (hK3 _ _ ?_)
     refine wp_seq_k fun K8 hK8 => ?_
     refine rg mixed y5 zz5 ?_
     refine .i (v := (.agg #[(.int .u8 (x.k)), (.int .i64 (x.n)), (.string (x.t)), (.slice cn0a (x.ns.length) cn0c), (.slice ci0a (x.xs.length) ci0c)])) (loA (hbs rfl e3) own_b3_2 trivial agg33 sz33 rfl rfl) ?_
     refine .op (φ := IsEx (x) (fun yy => IsPk W5 74 (yy) ([]) (0))) (st_ex1 fun yy => st_pk) (sp_call1 (φ1 := Is (.agg #[(.int .u8 (x.k)), (.int .i64 (x.n)), (.string (x.t)), (.slice cn0a (x.ns.length) cn0c), (.slice ci0a (x.xs.length) ci0c)])) ent21 (hlc rfl) (fun g u1 W hk hgk h1 => by have h1 : u1 = _ := h1; subst u1; exact (OfP_ok u (x) hx hof W _ _ (Nat.le_trans hu (Nat.le_trans kw.size hk.size)) (pin_sa hP hu) hav ((rdV_in (x := x) ht0 D_cn0 D_ci0 : Rd W5 (SA w S [b3_2]) (V.d (x)) _).ext hk)).mono (fun _ _ ⟨v, h1, h2, y, h3, h4⟩ => ⟨v, h1, h2, y, h3, pk_up hk h4⟩))) ?_
     refine .done ⟨by kernel_rfl, fun a9 g W9 y9 zz9 hk hg hV hR hP => ?_⟩
     obtain ⟨e28, -, -⟩ := hV
     replace e1 := (hR 1 rfl).trans e1
     replace e2 := (hR 2 rfl).trans e2
     obtain ⟨y28_9, hcp_y28_9, e28⟩ := e28
     obtain ⟨bo28_9, bm28_9, cn28_9v, ci28_9v, e28, lr_bo28_9, lr_bm28_9, ne_bo28_9_bm28_9, own_bo28_9, own_bm28_9, D_cn28_9, D_ci28_9, tb28_9⟩ := e28
     obtain ⟨cn28_9a, cn28_9c, ev, D2⟩ := rdS_out D_cn28_9; subst ev; replace D_cn28_9 := D2; clear D2
     obtain ⟨ci28_9a, ci28_9c, ev, D2⟩ := rdVs_out D_ci28_9; subst ev; replace D_ci28_9 := D2; clear D2
     have e28 : sl a9 28 = (.pointer (some ⟨bo28_9, 0, none⟩)) := e28
     have lo_bo28_9 : w.heap.size ≤ bo28_9 := Nat.le_trans kw.size lr_bo28_9
     have ne_b3_2_bo28_9 : b3_2 ≠ bo28_9 := Nat.ne_of_lt (Nat.lt_of_lt_of_le own_b3_2.lt lr_bo28_9)
     have lo_bm28_9 : w.heap.size ≤ bm28_9 := Nat.le_trans kw.size lr_bm28_9
     have ne_b3_2_bm28_9 : b3_2 ≠ bm28_9 := Nat.ne_of_lt (Nat.lt_of_lt_of_le own_b3_2.lt lr_bm28_9)
     replace D_cn0 : Rd W9 (SA w S [bo28_9, bm28_9, b3_2]) (strsD (x.ns)) (.slice cn0a (x.ns.length) cn0c) := sa_more D_cn0 hk [bo28_9, bm28_9] (in_cons lr_bo28_9 (in_cons lr_bm28_9 in_nil))
     replace D_ci0 : Rd W9 (SA w S [bo28_9, bm28_9, b3_2]) (valsD (x.xs)) (.slice ci0a (x.xs.length) ci0c) := sa_more D_ci0 hk [bo28_9, bm28_9] (in_cons lr_bo28_9 (in_cons lr_bm28_9 in_nil))
     replace D_vl : Rd W9 (SA w S [bo28_9, bm28_9, b3_2]) (clsD (l)) (.slice vla (l.length) vlc) := sa_more D_vl hk [bo28_9, bm28_9] (in_cons lr_bo28_9 (in_cons lr_bm28_9 in_nil))
     replace D_vm : Rd W9 (SA w S [bo28_9, bm28_9, b3_2]) (clsD (more)) (.slice vma (more.length) vmc) := sa_more D_vm hk [bo28_9, bm28_9] (in_cons lr_bo28_9 (in_cons lr_bm28_9 in_nil))
     replace D_cn28_9 : Rd W9 (SF w [bo28_9, bm28_9, b3_2]) (strsD (y28_9.ns)) (.slice cn28_9a (y28_9.ns.length) cn28_9c) := pk_data kw (in_cons own_b3_2.lt in_nil) D_cn28_9
     replace D_ci28_9 : Rd W9 (SF w [bo28_9, bm28_9, b3_2]) (valsD (y28_9.xs)) (.slice ci28_9a (y28_9.xs.length) ci28_9c) := pk_data kw (in_cons own_b3_2.lt in_nil) D_ci28_9
     have own_bo28_9 : Own W9 bo28_9 [(.int .u8 (y28_9.k)), (.int .i64 (y28_9.n)), (.string (y28_9.t)), (.slice cn28_9a (y28_9.ns.length) cn28_9c), (.slice ci28_9a (y28_9.xs.length) ci28_9c), (.map (some bm28_9)), (.int .i64 (0))] 74 := own_bo28_9
     have own_bm28_9 : OwnM W9 bm28_9 ([]) := own_bm28_9
     replace own_b3_2 := own_b3_2.ext hk
     replace kw := kw.x hk
     clear hR hk hg hP lr_bo28_9 lr_bm28_9
     refine tail_assign (v := (.pointer (some ⟨bo28_9, 0, none⟩))) e28 (by rw [y9]; exact Nat.le_of_ble_eq_true rfl) (fun a10 y10 zz10 e7 hr => ?_)
     replace y10 := y10.trans y9; replace zz10 := zz10.trans zz9
     replace e1 := (hr 1 (by decide)).trans e1
     replace e2 := (hr 2 (by decide)).trans e2
     replace e28 := (hr 28 (by decide)).trans e28
     clear hr
     refine tail_nil (hK8 _ _ ?_)
     refine wp_seq_k fun K11 hK11 => ?_
     refine wp_seq_k fun K12 hK12 => ?_
     refine rg mixed y10 zz10 ?_
     refine .i (sp_assign Has.cst) ?_
     refine .done ⟨by kernel_rfl, fun a13 g W13 y13 zz13 hk hg hV hR hP => ?_⟩
     obtain ⟨e8, -⟩ := hV
     replace e1 := (hR 1 rfl).trans e1
     replace e2 := (hR 2 rfl).trans e2
     replace e7 := (hR 7 rfl).trans e7
     replace D_vl := D_vl.ext hk
     replace D_vm := D_vm.ext hk
     replace D_cn28_9 := D_cn28_9.ext hk
     replace D_ci28_9 := D_ci28_9.ext hk
     have e8 : sl a13 8 = (.int .i64 (0)) := e8
     replace own_b3_2 := own_b3_2.ext hk
     replace own_bo28_9 := own_bo28_9.ext hk
     replace own_bm28_9 := own_bm28_9.ext hk
     replace kw := kw.x hk
     clear hR hk hg hP
     refine tail_nil (hK12 _ _ ?_)
     refine wp_block ?_
     replace D_vl := sa_less (M' := [bo28_9, bm28_9]) D_vl (ls_keep (ls_keep ls_nil))
     replace D_vm := sa_less (M' := [bo28_9, bm28_9]) D_vm (ls_keep (ls_keep ls_nil))
     replace D_cn28_9 := sf_less (M' := [bo28_9, bm28_9]) D_cn28_9 (ls_keep (ls_keep ls_nil))
     replace D_ci28_9 := sf_less (M' := [bo28_9, bm28_9]) D_ci28_9 (ls_keep (ls_keep ls_nil))
     replace own_bo28_9 : Own W13 bo28_9 [(.int .u8 (y28_9.k)), (.int .i64 (y28_9.n)), (.string (y28_9.t)), (.slice cn28_9a (y28_9.ns.length) cn28_9c), (.slice ci28_9a (y28_9.xs.length) ci28_9c), (.map (some bm28_9)), (.int .i64 (runE y28_9 0 (l.take 0)))] 74 := own_bo28_9
     replace own_bm28_9 : OwnM W13 bm28_9 (runA y28_9 [] 0 (l.take 0)) := own_bm28_9
     refine wp_for (l.length) (fun k a W => a.tmps.size = 82 ∧ a.defers = [] ∧ Keeps All w W ∧ sl a 1 = (.slice vla (l.length) vlc) ∧ sl a 2 = (.slice vma (more.length) vmc) ∧ sl a 7 = (.pointer (some ⟨bo28_9, 0, none⟩)) ∧ sl a 8 = (.int .i64 ((k : Nat))) ∧ Own W bo28_9 [(.int .u8 (y28_9.k)), (.int .i64 (y28_9.n)), (.string (y28_9.t)), (.slice cn28_9a (y28_9.ns.length) cn28_9c), (.slice ci28_9a (y28_9.xs.length) ci28_9c), (.map (some bm28_9)), (.int .i64 (runE y28_9 0 (l.take k)))] 74 ∧ OwnM W bm28_9 (runA y28_9 [] 0 (l.take k)) ∧ Rd W (SA w S [bo28_9, bm28_9]) (clsD (l)) (.slice vla (l.length) vlc) ∧ Rd W (SA w S [bo28_9, bm28_9]) (clsD (more)) (.slice vma (more.length) vmc) ∧ Rd W (SF w [bo28_9, bm28_9]) (strsD (y28_9.ns)) (.slice cn28_9a (y28_9.ns.length) cn28_9c) ∧ Rd W (SF w [bo28_9, bm28_9]) (valsD (y28_9.xs)) (.slice ci28_9a (y28_9.xs.length) ci28_9c)) ⟨y13, zz13, kw, e1, e2, e7, (e8.trans (congrArg (Value.int .i64) (rfl))), own_bo28_9, own_bm28_9, D_vl, D_vm, D_cn28_9, D_ci28_9⟩ ?_
     clear kw e1 e2 e7 e8 own_bo28_9 own_bm28_9 D_vl D_vm D_cn28_9 D_ci28_9
     rintro k a14 W14 hkk ⟨y14, zz14, kw, e1, e2, e7, e8, own_bo28_9, own_bm28_9, D_vl, D_vm, D_cn28_9, D_ci28_9⟩
     refine wp_seq_k fun K15 hK15 => ?_
     refine wp_seq_k fun K16 hK16 => ?_
     refine rg mixed y14 zz14 ?_
     refine .i (sp_move (hbs rfl e8)) ?_
     refine .i (sp_move (hbs rfl e1)) ?_
     refine .i (sp_lenL Try.underlying46 ((hlc rfl).dat D_vl sub_all)) ?_
     refine .i (sp_lss (hlc rfl) (hlc rfl)) ?_
     refine .done ⟨by kernel_rfl, fun a17 g W17 y17 zz17 hk hg hV hR hP => ?_⟩
     obtain ⟨e32, -, -, -, -⟩ := hV
     replace e1 := (hR 1 rfl).trans e1
     replace e2 := (hR 2 rfl).trans e2
     replace e7 := (hR 7 rfl).trans e7
     replace e8 := (hR 8 rfl).trans e8
     replace D_vl := D_vl.ext hk
     replace D_vm := D_vm.ext hk
     replace D_cn28_9 := D_cn28_9.ext hk
     replace D_ci28_9 := D_ci28_9.ext hk
     replace e32 := e32.q
     replace own_bo28_9 := own_bo28_9.ext hk
     replace own_bm28_9 := own_bm28_9.ext hk
     replace kw := kw.x hk
     clear hR hk hg hP
     refine tail_nil (hK16 _ _ ?_)
     refine wp_cond_split e32 (fun hc => ?_) (fun hc => ?_)
     ·
      have hlt : k < l.length := by simpa using hc
      refine wp_skip (hK15 _ _ ?_)
      refine wp_seq_k fun K18 hK18 => ?_
      refine wp_block ?_
      refine wp_reg (fun k => k ∉ [bo28_9, bm28_9]) (Ψ := fun W => Own W bo28_9 [(.int .u8 (y28_9.k)), (.int .i64 (y28_9.n)), (.string (y28_9.t)), (.slice cn28_9a (y28_9.ns.length) cn28_9c), (.slice ci28_9a (y28_9.xs.length) ci28_9c), (.map (some bm28_9)), (.int .i64 (runE y28_9 0 (l.take k)))] 74 ∧ OwnM W bm28_9 (runA y28_9 [] 0 (l.take k))) mixed y17 zz17 (stE_and stE_own stE_ownM) ⟨own_bo28_9, own_bm28_9⟩ ?_
      refine .i (sp_move (hbs rfl e7)) ?_
      refine .i (sp_move (hbs rfl e1)) ?_
      refine .i (sp_move (hbs rfl e8)) ?_
      refine .op (φ := IsR (SA w S [bo28_9, bm28_9]) (Cl.d (l[k]'hlt))) (st_r (sub_nl (by simp))) (sp_indexL (i := k) ((hlc rfl).dat D_vl (sub_nl (by simp))) (hlc rfl) Try.underlying46 sz54 rfl hlt) ?_
      refine .op (φ := IsD (SA w S [bo28_9, bm28_9]) (Cl.d (l[k]'hlt))) (st_d (sub_nl (by simp))) (sp_loadR (hlc rfl) agg54 sz54 (width_Cl _)) ?_
      refine .callL2 (φ1 := Is (.pointer (some ⟨bo28_9, 0, none⟩))) (φ2 := IsD (SA w S [bo28_9, bm28_9]) (Cl.d (l[k]'hlt))) (φ := Is (.bool (qR y28_9 (runE y28_9 0 (l.take k)) (l[k]'hlt)))) (Ψ' := fun W => Own W bo28_9 [(.int .u8 (y28_9.k)), (.int .i64 (y28_9.n)), (.string (y28_9.t)), (.slice cn28_9a (y28_9.ns.length) cn28_9c), (.slice ci28_9a (y28_9.xs.length) ci28_9c), (.map (some bm28_9)), (.int .i64 (qE y28_9 (runE y28_9 0 (l.take k)) (l[k]'hlt)))] 74 ∧ OwnM W bm28_9 (qA y28_9 (runA y28_9 [] 0 (l.take k)) (runE y28_9 0 (l.take k)) (l[k]'hlt))) ent35 (hlc rfl) (hlc rfl) (st_is _) (stE_and stE_own stE_ownM) (fun g u1 u2 W hk hg h1 h2 hP => by have h1 : u1 = _ := h1; subst u1; exact (quiet_ok (y28_9) (runA y28_9 [] 0 (l.take k)) (runE y28_9 0 (l.take k)) (AB.mono (AB.run _ AB.nil) (by simp only [List.length_take]; omega)) (by first | exact hx | exact Nat.le_trans (Cp.wt (by assumption)) hx) tb28_9 (l[k]'hlt) W _ _ _ _ _ (fun b o h => h.2.1) (sf_notin (by simp)) ne_bo28_9_bm28_9 (sf_keepL D_cn28_9 hk (by simp)) (sf_keepL D_ci28_9 hk (by simp)) hP.1 hP.2 _ (rdCl_any h2))) ?_
      refine .done ⟨by kernel_rfl, fun a19 g W19 y19 zz19 hk hg hV hR hP => ?_⟩
      obtain ⟨-, -, -, -, -, -, -⟩ := hV
      replace e1 := (hR 1 rfl).trans e1
      replace e2 := (hR 2 rfl).trans e2
      replace e7 := (hR 7 rfl).trans e7
      replace e8 := (hR 8 rfl).trans e8
      replace D_vl := sa_keepL D_vl hk (by simp)
      replace D_vm := sa_keepL D_vm hk (by simp)
      replace D_cn28_9 := sf_keepL D_cn28_9 hk (by simp)
      replace D_ci28_9 := sf_keepL D_ci28_9 hk (by simp)
      obtain ⟨own_bo28_9, own_bm28_9⟩ := hP
      replace own_bo28_9 : Own W19 bo28_9 [(.int .u8 (y28_9.k)), (.int .i64 (y28_9.n)), (.string (y28_9.t)), (.slice cn28_9a (y28_9.ns.length) cn28_9c), (.slice ci28_9a (y28_9.xs.length) ci28_9c), (.map (some bm28_9)), (.int .i64 (qE y28_9 (runE y28_9 0 (l.take k)) (l[k]'hlt)))] 74 := own_bo28_9
      replace own_bm28_9 : OwnM W19 bm28_9 (qA y28_9 (runA y28_9 [] 0 (l.take k)) (runE y28_9 0 (l.take k)) (l[k]'hlt)) := own_bm28_9
      replace kw := keeps_L kw hk (in_cons (.inl lo_bo28_9) (in_cons (.inl lo_bm28_9) in_nil))
      clear hR hk hg
      refine tail_nil (hK18 _ _ ?_)
      refine rg mixed y19 zz19 ?_
      refine .i (sp_move (hbs rfl e8)) ?_
      refine .i (sp_add (hlc rfl) Has.cst (i64_in (by omega))) ?_
      refine .i (sp_assign (hlc rfl)) ?_
      refine .done ⟨by kernel_rfl, fun a20 g W20 y20 zz20 hk hg hV hR hP => ?_⟩
      obtain ⟨e8, -, -, -⟩ := hV
      replace e1 := (hR 1 rfl).trans e1
      replace e2 := (hR 2 rfl).trans e2
      replace e7 := (hR 7 rfl).trans e7
      replace D_vl := D_vl.ext hk
      replace D_vm := D_vm.ext hk
      replace D_cn28_9 := D_cn28_9.ext hk
      replace D_ci28_9 := D_ci28_9.ext hk
      replace e8 := e8.q
      replace own_bo28_9 := own_bo28_9.ext hk
      replace own_bm28_9 := own_bm28_9.ext hk
      replace kw := kw.x hk
      clear hR hk hg hP
      rw [show qE y28_9 (runE y28_9 0 (l.take k)) (l[k]'hlt) = runE y28_9 0 (l.take (k + 1)) from runE_step hlt 0] at own_bo28_9
      rw [show qA y28_9 (runA y28_9 [] 0 (l.take k)) (runE y28_9 0 (l.take k)) (l[k]'hlt) = runA y28_9 [] 0 (l.take (k + 1)) from runA_step hlt [] 0] at own_bm28_9
      exact tail_nil ⟨hlt, y20, zz20, kw, e1, e2, e7, (e8.trans (congrArg (Value.int .i64) (by simp))), own_bo28_9, own_bm28_9, D_vl, D_vm, D_cn28_9, D_ci28_9⟩
     ·
      have hge0 : ¬ k < l.length := by simpa using hc
      have hge : k = l.length := by omega
      rw [hge, List.take_length] at own_bo28_9
      rw [hge, List.take_length] at own_bm28_9
      refine wp_exit (hK11 _ _ ?_)
      refine wp_seq_k fun K21 hK21 => ?_
      refine rg mixed y17 zz17 ?_
      refine .i (sp_move (hbs rfl e7)) ?_
      refine .i (v := (.int .i64 (errK y28_9.k (runE y28_9 0 l)))) (sp_call1 (φ1 := Is (.pointer (some ⟨bo28_9, 0, none⟩))) ent24 (hlc rfl) (fun g u1 W hk hgk h1 => by have h1 : u1 = _ := h1; subst u1; exact Err_ok _ _ _ _ _ _ _ W _ (own_bo28_9.ext hk))) ?_
      refine .i (sp_assign (hlc rfl)) ?_
      refine .done ⟨by kernel_rfl, fun a22 g W22 y22 zz22 hk hg hV hR hP => ?_⟩
      obtain ⟨e9, -, -, -⟩ := hV
      replace e2 := (hR 2 rfl).trans e2
      replace e7 := (hR 7 rfl).trans e7
      replace D_vl := D_vl.ext hk
      replace D_vm := D_vm.ext hk
      replace D_cn28_9 := D_cn28_9.ext hk
      replace D_ci28_9 := D_ci28_9.ext hk
      replace e9 := e9.q
      replace own_bo28_9 := own_bo28_9.ext hk
      replace own_bm28_9 := own_bm28_9.ext hk
      replace kw := kw.x hk
      clear hR hk hg hP
      refine tail_nil (hK21 _ _ ?_)
      refine wp_seq_k fun K23 hK23 => ?_
      refine wp_seq_k fun K24 hK24 => ?_
      refine rg mixed y22 zz22 ?_
      refine .i (sp_move (hbs rfl e9)) ?_
      refine .i (sp_eql (hlc rfl) Has.cst) ?_
      refine .done ⟨by kernel_rfl, fun a25 g W25 y25 zz25 hk hg hV hR hP => ?_⟩
      obtain ⟨e44, -, -⟩ := hV
      replace e2 := (hR 2 rfl).trans e2
      replace e7 := (hR 7 rfl).trans e7
      replace e9 := (hR 9 rfl).trans e9
      replace D_vm := D_vm.ext hk
      replace D_cn28_9 := D_cn28_9.ext hk
      replace D_ci28_9 := D_ci28_9.ext hk
      replace e44 := e44.q
      replace own_bo28_9 := own_bo28_9.ext hk
      replace own_bm28_9 := own_bm28_9.ext hk
      replace kw := kw.x hk
      clear hR hk hg hP
      refine tail_nil (hK24 _ _ ?_)
      refine wp_cond_split e44 (fun hc => ?_) (fun hc => ?_)
      ·
       have hE0 : errK y28_9.k (runE y28_9 0 l) = 0 := eq_of_beq hc
       refine wp_seq_k fun K26 hK26 => ?_
       refine rg mixed y25 zz25 ?_
       refine .i (sp_move (hbs rfl e7)) ?_
       refine .i (v := (.int .i64 (doneE y28_9 (runA y28_9 [] 0 l) (runE y28_9 0 l)))) (sp_call1 (φ1 := Is (.pointer (some ⟨bo28_9, 0, none⟩))) ent32 (hlc rfl) (fun g u1 W hk hgk h1 => by have h1 : u1 = _ := h1; subst u1; exact Done_ok (y28_9) (runA y28_9 [] 0 l) (runE y28_9 0 l) W _ _ _ _ _ (D_cn28_9.ext hk) (own_bo28_9.ext hk) (own_bm28_9.ext hk))) ?_
       refine .i (sp_eql (hlc rfl) Has.cst) ?_
       refine .i (sp_move (hlc rfl)) ?_
       refine .e (t := 48) rfl (hlc rfl) (fun hg => sp_move (hbs rfl e7)) ?_
       refine .e (t := 48) (v := (.int .i64 (doneE y28_9 (runA y28_9 [] 0 l) (runE y28_9 0 l)))) rfl (hlc rfl) (fun hg => sp_call1 (φ1 := Is (.pointer (some ⟨bo28_9, 0, none⟩))) ent32 ((hlc rfl).undE hg) (fun g u1 W hk hgk h1 => by have h1 : u1 = _ := h1; subst u1; exact Done_ok (y28_9) (runA y28_9 [] 0 l) (runE y28_9 0 l) W _ _ _ _ _ (D_cn28_9.ext hk) (own_bo28_9.ext hk) (own_bm28_9.ext hk))) ?_
       refine .e (t := 48) rfl (hlc rfl) (fun hg => sp_eql ((hlc rfl).undE hg) Has.cst) ?_
       refine .i (sp_or (hlc rfl) ((hlc rfl).weak fun hq => hq)) ?_
       refine .i (sp_assign (hlc rfl)) ?_
       refine .done ⟨by kernel_rfl, fun a27 g W27 y27 zz27 hk hg hV hR hP => ?_⟩
       obtain ⟨e6, -, -, -, -, -, -, -, -, -⟩ := hV
       replace D_vm := D_vm.ext hk
       replace D_cn28_9 := D_cn28_9.ext hk
       replace D_ci28_9 := D_ci28_9.ext hk
       replace e6 := e6.q
       replace own_bo28_9 := own_bo28_9.ext hk
       replace own_bm28_9 := own_bm28_9.ext hk
       replace kw := kw.x hk
       clear hR hk hg hP
       refine tail_nil (hK26 _ _ ?_)
       refine wp_ret ?_
       refine (show bodyPost Try.prog Try.f5 _ .ret _ _ from ret1 rfl zz27 e6 ⟨_, rfl, kw, ?_⟩)
       refine congrArg Value.bool ?_
       rcases done_or hE0 with h | h <;> rw [h] <;> rfl
      ·
       have hE : errK y28_9.k (runE y28_9 0 l) ≠ 0 := ne_of_beq_false hc
       refine wp_skip (hK23 _ _ ?_)
       refine wp_seq_k fun K28 hK28 => ?_
       refine wp_seq_k fun K29 hK29 => ?_
       refine rg mixed y25 zz25 ?_
       refine .i (sp_assign Has.cst) ?_
       refine .done ⟨by kernel_rfl, fun a30 g W30 y30 zz30 hk hg hV hR hP => ?_⟩
       obtain ⟨e10, -⟩ := hV
       replace e2 := (hR 2 rfl).trans e2
       replace e7 := (hR 7 rfl).trans e7
       replace e9 := (hR 9 rfl).trans e9
       replace D_vm := D_vm.ext hk
       replace D_cn28_9 := D_cn28_9.ext hk
       replace D_ci28_9 := D_ci28_9.ext hk
       have e10 : sl a30 10 = (.int .i64 (0)) := e10
       replace own_bo28_9 := own_bo28_9.ext hk
       replace own_bm28_9 := own_bm28_9.ext hk
       replace kw := kw.x hk
       clear hR hk hg hP
       refine tail_nil (hK29 _ _ ?_)
       refine wp_block ?_
       replace own_bo28_9 : Own W30 bo28_9 [(.int .u8 (y28_9.k)), (.int .i64 (y28_9.n)), (.string (y28_9.t)), (.slice cn28_9a (y28_9.ns.length) cn28_9c), (.slice ci28_9a (y28_9.xs.length) ci28_9c), (.map (some bm28_9)), (.int .i64 (runE y28_9 0 l))] 74 := own_bo28_9
       replace own_bm28_9 : OwnM W30 bm28_9 (runA y28_9 [] 0 l) := own_bm28_9
       refine wp_for (more.length) (fun j a W => a.tmps.size = 82 ∧ a.defers = [] ∧ Keeps All w W ∧ sl a 2 = (.slice vma (more.length) vmc) ∧ sl a 7 = (.pointer (some ⟨bo28_9, 0, none⟩)) ∧ sl a 9 = (.int .i64 (errK y28_9.k (runE y28_9 0 l))) ∧ sl a 10 = (.int .i64 ((j : Nat))) ∧ Own W bo28_9 [(.int .u8 (y28_9.k)), (.int .i64 (y28_9.n)), (.string (y28_9.t)), (.slice cn28_9a (y28_9.ns.length) cn28_9c), (.slice ci28_9a (y28_9.xs.length) ci28_9c), (.map (some bm28_9)), (.int .i64 (runE y28_9 0 l))] 74 ∧ OwnM W bm28_9 (runA y28_9 [] 0 l) ∧ Rd W (SA w S [bo28_9, bm28_9]) (clsD (more)) (.slice vma (more.length) vmc) ∧ Rd W (SF w [bo28_9, bm28_9]) (strsD (y28_9.ns)) (.slice cn28_9a (y28_9.ns.length) cn28_9c) ∧ Rd W (SF w [bo28_9, bm28_9]) (valsD (y28_9.xs)) (.slice ci28_9a (y28_9.xs.length) ci28_9c)) ⟨y30, zz30, kw, e2, e7, e9, (e10.trans (congrArg (Value.int .i64) (rfl))), own_bo28_9, own_bm28_9, D_vm, D_cn28_9, D_ci28_9⟩ ?_
       clear kw e2 e7 e9 e10 own_bo28_9 own_bm28_9 D_vm D_cn28_9 D_ci28_9
       rintro j a31 W31 hkj ⟨y31, zz31, kw, e2, e7, e9, e10, own_bo28_9, own_bm28_9, D_vm, D_cn28_9, D_ci28_9⟩
       refine wp_seq_k fun K32 hK32 => ?_
       refine wp_seq_k fun K33 hK33 => ?_
       refine rg mixed y31 zz31 ?_
       refine .i (sp_move (hbs rfl e10)) ?_
       refine .i (sp_move (hbs rfl e2)) ?_
       refine .i (sp_lenL Try.underlying46 ((hlc rfl).dat D_vm sub_all)) ?_
       refine .i (sp_lss (hlc rfl) (hlc rfl)) ?_
       refine .done ⟨by kernel_rfl, fun a34 g W34 y34 zz34 hk hg hV hR hP => ?_⟩
       obtain ⟨e56, -, -, -, -⟩ := hV
       replace e2 := (hR 2 rfl).trans e2
       replace e7 := (hR 7 rfl).trans e7
       replace e9 := (hR 9 rfl).trans e9
       replace e10 := (hR 10 rfl).trans e10
       replace D_vm := D_vm.ext hk
       replace D_cn28_9 := D_cn28_9.ext hk
       replace D_ci28_9 := D_ci28_9.ext hk
       replace e56 := e56.q
       replace own_bo28_9 := own_bo28_9.ext hk
       replace own_bm28_9 := own_bm28_9.ext hk
       replace kw := kw.x hk
       clear hR hk hg hP
       refine tail_nil (hK33 _ _ ?_)
       refine wp_cond_split e56 (fun hc => ?_) (fun hc => ?_)
       ·
        have hlt : j < more.length := by simpa using hc
        have hltj := hlt
        refine wp_skip (hK32 _ _ ?_)
        refine wp_seq_k fun K35 hK35 => ?_
        refine wp_block ?_
        refine wp_seq_k fun K36 hK36 => ?_
        refine wp_reg (fun k => k ∉ [bo28_9, bm28_9]) (Ψ := fun W => Own W bo28_9 [(.int .u8 (y28_9.k)), (.int .i64 (y28_9.n)), (.string (y28_9.t)), (.slice cn28_9a (y28_9.ns.length) cn28_9c), (.slice ci28_9a (y28_9.xs.length) ci28_9c), (.map (some bm28_9)), (.int .i64 (runE y28_9 0 l))] 74 ∧ OwnM W bm28_9 (runA y28_9 [] 0 l)) mixed y34 zz34 (stE_and stE_own stE_ownM) ⟨own_bo28_9, own_bm28_9⟩ ?_
        refine .i (sp_move (hbs rfl e7)) ?_
        refine .i (sp_move (hbs rfl e2)) ?_
        refine .i (sp_move (hbs rfl e10)) ?_
        refine .op (φ := IsR (SA w S [bo28_9, bm28_9]) (Cl.d (more[j]'hltj))) (st_r (sub_nl (by simp))) (sp_indexL (i := j) ((hlc rfl).dat D_vm (sub_nl (by simp))) (hlc rfl) Try.underlying46 sz54 rfl hltj) ?_
        refine .op (φ := IsD (SA w S [bo28_9, bm28_9]) (Cl.d (more[j]'hltj))) (st_d (sub_nl (by simp))) (sp_loadR (hlc rfl) agg54 sz54 (width_Cl _)) ?_
        refine .callL2 (φ1 := Is (.pointer (some ⟨bo28_9, 0, none⟩))) (φ2 := IsD (SA w S [bo28_9, bm28_9]) (Cl.d (more[j]'hltj))) (φ := Is (.bool (qR y28_9 (runE y28_9 0 l) (more[j]'hltj)))) (Ψ' := fun W => Own W bo28_9 [(.int .u8 (y28_9.k)), (.int .i64 (y28_9.n)), (.string (y28_9.t)), (.slice cn28_9a (y28_9.ns.length) cn28_9c), (.slice ci28_9a (y28_9.xs.length) ci28_9c), (.map (some bm28_9)), (.int .i64 (qE y28_9 (runE y28_9 0 l) (more[j]'hltj)))] 74 ∧ OwnM W bm28_9 (qA y28_9 (runA y28_9 [] 0 l) (runE y28_9 0 l) (more[j]'hltj))) ent35 (hlc rfl) (hlc rfl) (st_is _) (stE_and stE_own stE_ownM) (fun g u1 u2 W hk hg h1 h2 hP => by have h1 : u1 = _ := h1; subst u1; exact (quiet_ok (y28_9) (runA y28_9 [] 0 l) (runE y28_9 0 l) (AB.mono (AB.run _ AB.nil) (by omega)) (by first | exact hx | exact Nat.le_trans (Cp.wt (by assumption)) hx) tb28_9 (more[j]'hltj) W _ _ _ _ _ (fun b o h => h.2.1) (sf_notin (by simp)) ne_bo28_9_bm28_9 (sf_keepL D_cn28_9 hk (by simp)) (sf_keepL D_ci28_9 hk (by simp)) hP.1 hP.2 _ (rdCl_any h2))) ?_
        refine .done ⟨by kernel_rfl, fun a37 g W37 y37 zz37 hk hg hV hR hP => ?_⟩
        obtain ⟨e64, -, -, -, -, -, -⟩ := hV
        replace e2 := (hR 2 rfl).trans e2
        replace e7 := (hR 7 rfl).trans e7
        replace e9 := (hR 9 rfl).trans e9
        replace e10 := (hR 10 rfl).trans e10
        replace e64 := e64.q
        replace D_vm := sa_keepL D_vm hk (by simp)
        replace D_cn28_9 := sf_keepL D_cn28_9 hk (by simp)
        replace D_ci28_9 := sf_keepL D_ci28_9 hk (by simp)
        obtain ⟨own_bo28_9, own_bm28_9⟩ := hP
        replace own_bo28_9 : Own W37 bo28_9 [(.int .u8 (y28_9.k)), (.int .i64 (y28_9.n)), (.string (y28_9.t)), (.slice cn28_9a (y28_9.ns.length) cn28_9c), (.slice ci28_9a (y28_9.xs.length) ci28_9c), (.map (some bm28_9)), (.int .i64 (qE y28_9 (runE y28_9 0 l) (more[j]'hltj)))] 74 := own_bo28_9
        replace own_bm28_9 : OwnM W37 bm28_9 (qA y28_9 (runA y28_9 [] 0 l) (runE y28_9 0 l) (more[j]'hltj)) := own_bm28_9
        replace kw := keeps_L kw hk (in_cons (.inl lo_bo28_9) (in_cons (.inl lo_bm28_9) in_nil))
        clear hR hk hg
        refine tail_reg 2 All y37 zz37 st_tr trivial rfl ?_
        refine .i (sp_not (hbs rfl e64)) ?_
        refine .i (sp_move (hlc rfl)) ?_
        refine .done ⟨by kernel_rfl, fun a38 g W38 y38 zz38 hk hg hV hR hP => ?_⟩
        refine tail_nil ?_
        show runTail _ _ _ _ _ _
        obtain ⟨e66, -, -⟩ := hV
        replace e2 := (hR 2 rfl).trans e2
        replace e7 := (hR 7 rfl).trans e7
        replace e9 := (hR 9 rfl).trans e9
        replace e10 := (hR 10 rfl).trans e10
        replace D_vm := D_vm.ext hk
        replace D_cn28_9 := D_cn28_9.ext hk
        replace D_ci28_9 := D_ci28_9.ext hk
        replace e66 := e66.q
        replace own_bo28_9 := own_bo28_9.ext hk
        replace own_bm28_9 := own_bm28_9.ext hk
        replace kw := kw.x hk
        clear hR hk hg hP
        refine tail_ung 7 66 false rfl 4 rfl (e66.trans (congrArg Value.bool (by rw [qR_dead _ hE]; rfl))) ?_
        refine tail_reg 6 All y38 zz38 st_tr trivial rfl ?_
        refine .i (sp_move (hbs rfl e7)) ?_
        refine .i (v := (.int .i64 (errK y28_9.k (qE y28_9 (runE y28_9 0 l) (more[j]'hltj))))) (sp_call1 (φ1 := Is (.pointer (some ⟨bo28_9, 0, none⟩))) ent24 (hlc rfl) (fun g u1 W hk hgk h1 => by have h1 : u1 = _ := h1; subst u1; exact Err_ok _ _ _ _ _ _ _ W _ (own_bo28_9.ext hk))) ?_
        refine .i (sp_move (hbs rfl e9)) ?_
        refine .i (sp_neq (hlc rfl) (hlc rfl)) ?_
        refine .i (sp_or (hbs rfl e66) ((hlc rfl).toU)) ?_
        refine .i (sp_move (hlc rfl)) ?_
        refine .done ⟨by kernel_rfl, fun a39 g W39 y39 zz39 hk hg hV hR hP => ?_⟩
        refine tail_nil ?_
        show runTail _ _ _ _ _ _
        obtain ⟨e72, -, -, -, -, -, -⟩ := hV
        replace e2 := (hR 2 rfl).trans e2
        replace e7 := (hR 7 rfl).trans e7
        replace e9 := (hR 9 rfl).trans e9
        replace e10 := (hR 10 rfl).trans e10
        replace D_vm := D_vm.ext hk
        replace D_cn28_9 := D_cn28_9.ext hk
        replace D_ci28_9 := D_ci28_9.ext hk
        replace e72 := e72.q
        replace own_bo28_9 := own_bo28_9.ext hk
        replace own_bm28_9 := own_bm28_9.ext hk
        replace kw := kw.x hk
        clear hR hk hg hP
        refine tail_ung 13 72 false rfl 4 rfl (e72.trans (congrArg Value.bool (by rw [qR_dead _ hE, qE_dead _ hE]; simp))) ?_
        refine tail_reg 5 All y39 zz39 st_tr trivial rfl ?_
        refine .i (sp_move (hbs rfl e7)) ?_
        refine .i (v := (.int .i64 (doneE y28_9 (qA y28_9 (runA y28_9 [] 0 l) (runE y28_9 0 l) (more[j]'hltj)) (qE y28_9 (runE y28_9 0 l) (more[j]'hltj))))) (sp_call1 (φ1 := Is (.pointer (some ⟨bo28_9, 0, none⟩))) ent32 (hlc rfl) (fun g u1 W hk hgk h1 => by have h1 : u1 = _ := h1; subst u1; exact Done_ok (y28_9) (qA y28_9 (runA y28_9 [] 0 l) (runE y28_9 0 l) (more[j]'hltj)) (qE y28_9 (runE y28_9 0 l) (more[j]'hltj)) W _ _ _ _ _ (D_cn28_9.ext hk) (own_bo28_9.ext hk) (own_bm28_9.ext hk))) ?_
        refine .i (sp_move (hbs rfl e9)) ?_
        refine .i (sp_neq (hlc rfl) (hlc rfl)) ?_
        refine .i (sp_or (hbs rfl e72) ((hlc rfl).toU)) ?_
        refine .done ⟨by kernel_rfl, fun a40 g W40 y40 zz40 hk hg hV hR hP => ?_⟩
        refine tail_nil ?_
        show runTail _ _ _ _ _ _
        obtain ⟨e77, -, -, -, -, -⟩ := hV
        replace e2 := (hR 2 rfl).trans e2
        replace e7 := (hR 7 rfl).trans e7
        replace e9 := (hR 9 rfl).trans e9
        replace e10 := (hR 10 rfl).trans e10
        replace D_vm := D_vm.ext hk
        replace D_cn28_9 := D_cn28_9.ext hk
        replace D_ci28_9 := D_ci28_9.ext hk
        replace e77 := e77.q
        replace own_bo28_9 := own_bo28_9.ext hk
        replace own_bm28_9 := own_bm28_9.ext hk
        replace kw := kw.x hk
        clear hR hk hg hP
        refine tail_nil (hK36 _ _ ?_)
        refine wp_cond_split e77 (fun hc => ?_) (fun hc => ?_)
        ·
         exfalso
         rw [qR_dead _ hE, qE_dead _ hE, doneE_dead hE] at hc
         simp at hc
        ·
         refine wp_skip (hK35 _ _ ?_)
         refine rg mixed y40 zz40 ?_
         refine .i (sp_move (hbs rfl e10)) ?_
         refine .i (sp_add (hlc rfl) Has.cst (i64_in (by omega))) ?_
         refine .i (sp_assign (hlc rfl)) ?_
         refine .done ⟨by kernel_rfl, fun a41 g W41 y41 zz41 hk hg hV hR hP => ?_⟩
         obtain ⟨e10, -, -, -⟩ := hV
         replace e2 := (hR 2 rfl).trans e2
         replace e7 := (hR 7 rfl).trans e7
         replace e9 := (hR 9 rfl).trans e9
         replace D_vm := D_vm.ext hk
         replace D_cn28_9 := D_cn28_9.ext hk
         replace D_ci28_9 := D_ci28_9.ext hk
         replace e10 := e10.q
         replace own_bo28_9 := own_bo28_9.ext hk
         replace own_bm28_9 := own_bm28_9.ext hk
         replace kw := kw.x hk
         clear hR hk hg hP
         rw [show qE y28_9 (runE y28_9 0 l) (more[j]'hltj) = runE y28_9 0 l from qE_dead _ hE] at own_bo28_9
         rw [show qA y28_9 (runA y28_9 [] 0 l) (runE y28_9 0 l) (more[j]'hltj) = runA y28_9 [] 0 l from qA_dead _ hE] at own_bm28_9
         exact tail_nil ⟨hltj, y41, zz41, kw, e2, e7, e9, (e10.trans (congrArg (Value.int .i64) (by simp))), own_bo28_9, own_bm28_9, D_vm, D_cn28_9, D_ci28_9⟩
       ·
        have hge0 : ¬ j < more.length := by simpa using hc
        have hge : j = more.length := by omega
        refine wp_exit (hK28 _ _ ?_)
        refine wp_seq_k fun K42 hK42 => ?_
        refine rg mixed y34 zz34 ?_
        refine .i (sp_move (hbs rfl e7)) ?_
        refine .i (v := (.int .i64 (doneE y28_9 (runA y28_9 [] 0 l) (runE y28_9 0 l)))) (sp_call1 (φ1 := Is (.pointer (some ⟨bo28_9, 0, none⟩))) ent32 (hlc rfl) (fun g u1 W hk hgk h1 => by have h1 : u1 = _ := h1; subst u1; exact Done_ok (y28_9) (runA y28_9 [] 0 l) (runE y28_9 0 l) W _ _ _ _ _ (D_cn28_9.ext hk) (own_bo28_9.ext hk) (own_bm28_9.ext hk))) ?_
        refine .i (sp_move (hbs rfl e9)) ?_
        refine .i (sp_eql (hlc rfl) (hlc rfl)) ?_
        refine .i (sp_assign (hlc rfl)) ?_
        refine .done ⟨by kernel_rfl, fun a43 g W43 y43 zz43 hk hg hV hR hP => ?_⟩
        obtain ⟨e6, -, -, -, -, -⟩ := hV
        replace D_vm := D_vm.ext hk
        replace D_cn28_9 := D_cn28_9.ext hk
        replace D_ci28_9 := D_ci28_9.ext hk
        replace e6 := e6.q
        replace own_bo28_9 := own_bo28_9.ext hk
        replace own_bm28_9 := own_bm28_9.ext hk
        replace kw := kw.x hk
        clear hR hk hg hP
        refine tail_nil (hK42 _ _ ?_)
        refine wp_ret ?_
        refine (show bodyPost Try.prog Try.f5 _ .ret _ _ from ret1 rfl zz43 e6 ⟨_, rfl, kw, ?_⟩)
        refine congrArg Value.bool ?_
        rw [doneE_dead hE]
        simp
  · have hE : errK 0 (ofE x) ≠ 0 := by rw [ofE_dead hof]; exact hof
    obtain ⟨cn0a, cn0c, ci0a, ci0c, ev, ht0, D_cn0, D_ci0⟩ := rdV_out (rd_arg hv)
    subst ev
    obtain ⟨vla, vlc, ev, D_vl⟩ := rdCls_out (rd_arg h1)
    subst ev
    obtain ⟨vma, vmc, ev, D_vm⟩ := rdCls_out (rd_arg h2)
    subst ev
    refine enter Try.func5 rfl Try.ntmps5 (lbr rfl) fun a0 y0 zz0 harg => ?_
    have e0 : sl a0 0 = (.agg #[(.int .u8 (x.k)), (.int .i64 (x.n)), (.string (x.t)), (.slice cn0a (x.ns.length) cn0c), (.slice ci0a (x.xs.length) ci0c)]) := harg 0 (lbr rfl)
    have e1 : sl a0 1 = (.slice vla (l.length) vlc) := harg 1 (lbr rfl)
    have e2 : sl a0 2 = (.slice vma (more.length) vmc) := harg 2 (lbr rfl)
    have kw := Keeps.refl All w
    clear harg
    refine wp_seq_k fun K1 hK1 => ?_
    refine rg mixed y0 zz0 ?_
    refine .boxOp (v := (.agg #[(.int .u8 (x.k)), (.int .i64 (x.n)), (.string (x.t)), (.slice cn0a (x.ns.length) cn0c), (.slice ci0a (x.xs.length) ci0c)])) (hbs rfl e0) ?_
    refine .i (sp_assign Has.cst) ?_
    refine .done ⟨by kernel_rfl, fun a2 g W2 y2 zz2 hk hg hV hR hP => ?_⟩
    obtain ⟨-, ⟨b3_2, e3, hb3, own_b3_2⟩, -⟩ := hV
    have lo_b3_2 : w.heap.size ≤ b3_2 := Nat.le_trans kw.size (hg.lo _ _ hb3)
    have own_b3_2 : Own W2 b3_2 [(.int .u8 (x.k)), (.int .i64 (x.n)), (.string (x.t)), (.slice cn0a (x.ns.length) cn0c), (.slice ci0a (x.xs.length) ci0c)] 33 := own_b3_2
    replace e1 := (hR 1 rfl).trans e1
    replace e2 := (hR 2 rfl).trans e2
    replace D_cn0 := sa_more D_cn0 hk [b3_2] (in_cons (hg.lo _ _ hb3) in_nil)
    replace D_ci0 := sa_more D_ci0 hk [b3_2] (in_cons (hg.lo _ _ hb3) in_nil)
    replace D_vl := sa_more D_vl hk [b3_2] (in_cons (hg.lo _ _ hb3) in_nil)
    replace D_vm := sa_more D_vm hk [b3_2] (in_cons (hg.lo _ _ hb3) in_nil)
    replace kw := kw.x hk
    clear hR hk hg hP hb3
    refine tail_nil (hK1 _ _ ?_)
    refine wp_seq_k fun K3 hK3 => ?_
    refine wp_seq_k fun K4 hK4 => ?_
    refine rg mixed y2 zz2 ?_
    refine .i (v := (.agg #[(.int .u8 (x.k)), (.int .i64 (x.n)), (.string (x.t)), (.slice cn0a (x.ns.length) cn0c), (.slice ci0a (x.xs.length) ci0c)])) (loA (hbs rfl e3) own_b3_2 trivial agg33 sz33 rfl rfl) ?_
    refine .da (X := SA w S [b3_2]) (e := valsD ([x])) (sp_bsl (ds := [V.d (x)]) Try.underlying31 sz33 z33 (lbr rfl) (lbr rfl) ⟨rfl, ((hlc rfl).dat (rdV_in (x := x) ht0 D_cn0 D_ci0 : Rd W2 (SA w S [b3_2]) (V.d (x)) _) sub_all), trivial⟩ rfl (by intro e he; simp at he; rcases he with rfl <;> exact width_V _) (fr_sa kw (in_cons own_b3_2.lt in_nil))) ?_
    refine .i (v := (.bool (decide (20000 ≤ szL ([x]) 0 0)))) (sp_call1 (φ1 := IsD (SA w S [b3_2]) (valsD ([x]))) ent26 (hlc rfl) (fun g u1 W hk hgk h1 => Long_ok ([x]) W _ _ h1)) ?_
    refine .i (sp_move (hlc rfl)) ?_
    refine .e (t := 14) rfl (hlc rfl) (fun hg => sp_move (hbs rfl e1)) ?_
    refine .e (t := 14) (v := (.bool (decide (5000 ≤ szC l 0)))) rfl (hlc rfl) (fun hg => sp_call1 (φ1 := IsD (SA w S [b3_2]) (clsD (l))) ent27 (((hlc rfl).undE hg).dat D_vl sub_all) (fun g u1 W hk hgk h1 => long11_ok (l) W _ _ h1)) ?_
    refine .i (sp_or (hlc rfl) ((hlc rfl).weak fun hq => hq)) ?_
    refine .i (sp_move (hlc rfl)) ?_
    refine .e (t := 18) rfl (hlc rfl) (fun hg => sp_move (hbs rfl e2)) ?_
    refine .e (t := 18) (v := (.bool (decide (5000 ≤ szC more 0)))) rfl (hlc rfl) (fun hg => sp_call1 (φ1 := IsD (SA w S [b3_2]) (clsD (more))) ent27 (((hlc rfl).undE hg).dat D_vm sub_all) (fun g u1 W hk hgk h1 => long11_ok (more) W _ _ h1)) ?_
    refine .i (sp_or (hlc rfl) ((hlc rfl).weak fun hq => hq)) ?_
    refine .i (sp_move (hlc rfl)) ?_
    refine .e (t := 22) (v := (.bool (true))) rfl (hlc rfl) (fun hg => sp_call0  ent28  (fun g  W hk hgk  => awake11_ok W)) ?_
    refine .e (t := 22) rfl (hlc rfl) (fun hg => sp_not ((hlc rfl).undE hg)) ?_
    refine .i (sp_or (hlc rfl) ((hlc rfl).weak fun hq => hq)) ?_
    refine .done ⟨by kernel_rfl, fun a5 g W5 y5 zz5 hk hg hV hR hP => ?_⟩
    obtain ⟨e25, -, -, -, -, -, -, -, -, -, -, -, -, -, -, -⟩ := hV
    replace e1 := (hR 1 rfl).trans e1
    replace e2 := (hR 2 rfl).trans e2
    replace e3 := (hR 3 rfl).trans e3
    replace D_cn0 := D_cn0.ext hk
    replace D_ci0 := D_ci0.ext hk
    replace D_vl := D_vl.ext hk
    replace D_vm := D_vm.ext hk
    replace e25 := e25.q
    replace own_b3_2 := own_b3_2.ext hk
    replace kw := kw.x hk
    clear hR hk hg hP
    refine tail_nil (hK4 _ _ ?_)
    refine wp_cond_split e25 (fun hc => ?_) (fun hc => ?_)
    ·
     refine wp_seq_k fun K6 hK6 => ?_
     refine rg mixed y5 zz5 ?_
     refine .i (v := (.bool (true))) (sp_call0  ent28  (fun g  W hk hgk  => awake11_ok W)) ?_
     refine .i (sp_assign (hlc rfl)) ?_
     refine .done ⟨by kernel_rfl, fun a7 g W7 y7 zz7 hk hg hV hR hP => ?_⟩
     obtain ⟨e6, -, -⟩ := hV
     replace D_cn0 := D_cn0.ext hk
     replace D_ci0 := D_ci0.ext hk
     replace D_vl := D_vl.ext hk
     replace D_vm := D_vm.ext hk
     have e6 : sl a7 6 = (.bool (true)) := e6
     replace own_b3_2 := own_b3_2.ext hk
     replace kw := kw.x hk
     clear hR hk hg hP
     refine tail_nil (hK6 _ _ ?_)
     refine wp_ret ?_
     refine (show bodyPost Try.prog Try.f5 _ .ret _ _ from ret1 rfl zz7 e6 ⟨_, rfl, kw, ?_⟩)
     exact rfl
    ·
     simp only [Bool.or_eq_false_iff, decide_eq_false_iff_not] at hc
     obtain ⟨⟨⟨hlx, hll⟩, hlm⟩, -⟩ := hc
     have hx : x.wt ≤ 1073741824 := by have := long_wt (Nat.lt_of_not_le hlx); simp only [V.wts] at this; omega
     have hl5 := szC_len l 0 (Nat.lt_of_not_le hll)
     have hm5 := szC_len more 0 (Nat.lt_of_not_le hlm)
     refine wp_skip (hK3 _ _ ?_)
     refine wp_seq_k fun K8 hK8 => ?_
     refine rg mixed y5 zz5 ?_
     refine .i (v := (.agg #[(.int .u8 (x.k)), (.int .i64 (x.n)), (.string (x.t)), (.slice cn0a (x.ns.length) cn0c), (.slice ci0a (x.xs.length) ci0c)])) (loA (hbs rfl e3) own_b3_2 trivial agg33 sz33 rfl rfl) ?_
     refine .op (φ := IsPkD W5 74 (ofE x)) st_pkd (sp_call1 (φ1 := IsD (SA w S [b3_2]) (V.d (x))) ent21 ((hlc rfl).dat (rdV_in (x := x) ht0 D_cn0 D_ci0 : Rd W5 (SA w S [b3_2]) (V.d (x)) _) sub_all) (fun g u1 W hk hgk h1 => (OfD_ok (x) hof W _ _ h1).mono (fun _ _ ⟨v, h1, h2, h3⟩ => ⟨v, h1, h2, pkd_up hk h3⟩))) ?_
     refine .done ⟨by kernel_rfl, fun a9 g W9 y9 zz9 hk hg hV hR hP => ?_⟩
     obtain ⟨e28, -, -⟩ := hV
     replace e1 := (hR 1 rfl).trans e1
     replace e2 := (hR 2 rfl).trans e2
     obtain ⟨bo28_9, e28, lr_bo28_9, own_bo28_9⟩ := e28
     have e28 : sl a9 28 = (.pointer (some ⟨bo28_9, 0, none⟩)) := e28
     have lo_bo28_9 : w.heap.size ≤ bo28_9 := Nat.le_trans kw.size lr_bo28_9
     have ne_b3_2_bo28_9 : b3_2 ≠ bo28_9 := Nat.ne_of_lt (Nat.lt_of_lt_of_le own_b3_2.lt lr_bo28_9)
     replace D_cn0 : Rd W9 (SA w S [bo28_9, b3_2]) (strsD (x.ns)) (.slice cn0a (x.ns.length) cn0c) := sa_more D_cn0 hk [bo28_9] (in_cons lr_bo28_9 in_nil)
     replace D_ci0 : Rd W9 (SA w S [bo28_9, b3_2]) (valsD (x.xs)) (.slice ci0a (x.xs.length) ci0c) := sa_more D_ci0 hk [bo28_9] (in_cons lr_bo28_9 in_nil)
     replace D_vl : Rd W9 (SA w S [bo28_9, b3_2]) (clsD (l)) (.slice vla (l.length) vlc) := sa_more D_vl hk [bo28_9] (in_cons lr_bo28_9 in_nil)
     replace D_vm : Rd W9 (SA w S [bo28_9, b3_2]) (clsD (more)) (.slice vma (more.length) vmc) := sa_more D_vm hk [bo28_9] (in_cons lr_bo28_9 in_nil)
     have own_bo28_9 : Own W9 bo28_9 [(.int .u8 (0)), (.int .i64 (0)), (.string (⟨#[]⟩)), (.slice none 0 0), (.slice none 0 0), (.map none), (.int .i64 (ofE x))] 74 := own_bo28_9
     replace own_b3_2 := own_b3_2.ext hk
     replace kw := kw.x hk
     clear hR hk hg hP lr_bo28_9
     refine tail_assign (v := (.pointer (some ⟨bo28_9, 0, none⟩))) e28 (by rw [y9]; exact Nat.le_of_ble_eq_true rfl) (fun a10 y10 zz10 e7 hr => ?_)
     replace y10 := y10.trans y9; replace zz10 := zz10.trans zz9
     replace e1 := (hr 1 (by decide)).trans e1
     replace e2 := (hr 2 (by decide)).trans e2
     replace e28 := (hr 28 (by decide)).trans e28
     clear hr
     refine tail_nil (hK8 _ _ ?_)
     refine wp_seq_k fun K11 hK11 => ?_
     refine wp_seq_k fun K12 hK12 => ?_
     refine rg mixed y10 zz10 ?_
     refine .i (sp_assign Has.cst) ?_
     refine .done ⟨by kernel_rfl, fun a13 g W13 y13 zz13 hk hg hV hR hP => ?_⟩
     obtain ⟨e8, -⟩ := hV
     replace e1 := (hR 1 rfl).trans e1
     replace e2 := (hR 2 rfl).trans e2
     replace e7 := (hR 7 rfl).trans e7
     replace D_vl := D_vl.ext hk
     replace D_vm := D_vm.ext hk
     have e8 : sl a13 8 = (.int .i64 (0)) := e8
     replace own_b3_2 := own_b3_2.ext hk
     replace own_bo28_9 := own_bo28_9.ext hk
     replace kw := kw.x hk
     clear hR hk hg hP
     refine tail_nil (hK12 _ _ ?_)
     refine wp_block ?_
     replace D_vl := sa_less (M' := [bo28_9]) D_vl (ls_keep ls_nil)
     replace D_vm := sa_less (M' := [bo28_9]) D_vm (ls_keep ls_nil)
     refine wp_for (l.length) (fun k a W => a.tmps.size = 82 ∧ a.defers = [] ∧ Keeps All w W ∧ sl a 1 = (.slice vla (l.length) vlc) ∧ sl a 2 = (.slice vma (more.length) vmc) ∧ sl a 7 = (.pointer (some ⟨bo28_9, 0, none⟩)) ∧ sl a 8 = (.int .i64 ((k : Nat))) ∧ Own W bo28_9 [(.int .u8 (0)), (.int .i64 (0)), (.string (⟨#[]⟩)), (.slice none 0 0), (.slice none 0 0), (.map none), (.int .i64 (ofE x))] 74 ∧ Rd W (SA w S [bo28_9]) (clsD (l)) (.slice vla (l.length) vlc) ∧ Rd W (SA w S [bo28_9]) (clsD (more)) (.slice vma (more.length) vmc)) ⟨y13, zz13, kw, e1, e2, e7, (e8.trans (congrArg (Value.int .i64) (rfl))), own_bo28_9, D_vl, D_vm⟩ ?_
     clear kw e1 e2 e7 e8 own_bo28_9 D_vl D_vm
     rintro k a14 W14 hkk ⟨y14, zz14, kw, e1, e2, e7, e8, own_bo28_9, D_vl, D_vm⟩
     refine wp_seq_k fun K15 hK15 => ?_
     refine wp_seq_k fun K16 hK16 => ?_
     refine rg mixed y14 zz14 ?_
     refine .i (sp_move (hbs rfl e8)) ?_
     refine .i (sp_move (hbs rfl e1)) ?_
     refine .i (sp_lenL Try.underlying46 ((hlc rfl).dat D_vl sub_all)) ?_
     refine .i (sp_lss (hlc rfl) (hlc rfl)) ?_
     refine .done ⟨by kernel_rfl, fun a17 g W17 y17 zz17 hk hg hV hR hP => ?_⟩
     obtain ⟨e32, -, -, -, -⟩ := hV
     replace e1 := (hR 1 rfl).trans e1
     replace e2 := (hR 2 rfl).trans e2
     replace e7 := (hR 7 rfl).trans e7
     replace e8 := (hR 8 rfl).trans e8
     replace D_vl := D_vl.ext hk
     replace D_vm := D_vm.ext hk
     replace e32 := e32.q
     replace own_bo28_9 := own_bo28_9.ext hk
     replace kw := kw.x hk
     clear hR hk hg hP
     refine tail_nil (hK16 _ _ ?_)
     refine wp_cond_split e32 (fun hc => ?_) (fun hc => ?_)
     ·
      have hlt : k < l.length := by simpa using hc
      refine wp_skip (hK15 _ _ ?_)
      refine wp_seq_k fun K18 hK18 => ?_
      refine wp_block ?_
      refine wp_reg (fun k => k ∉ [bo28_9]) (Ψ := fun W => Own W bo28_9 [(.int .u8 (0)), (.int .i64 (0)), (.string (⟨#[]⟩)), (.slice none 0 0), (.slice none 0 0), (.map none), (.int .i64 (ofE x))] 74) mixed y17 zz17 stE_own own_bo28_9 ?_
      refine .i (sp_move (hbs rfl e7)) ?_
      refine .i (sp_move (hbs rfl e1)) ?_
      refine .i (sp_move (hbs rfl e8)) ?_
      refine .op (φ := IsR (SA w S [bo28_9]) (Cl.d (l[k]'hlt))) (st_r (sub_nl (by simp))) (sp_indexL (i := k) ((hlc rfl).dat D_vl (sub_nl (by simp))) (hlc rfl) Try.underlying46 sz54 rfl hlt) ?_
      refine .op (φ := IsD (SA w S [bo28_9]) (Cl.d (l[k]'hlt))) (st_d (sub_nl (by simp))) (sp_loadR (hlc rfl) agg54 sz54 (width_Cl _)) ?_
      refine .callL2 (φ1 := Is (.pointer (some ⟨bo28_9, 0, none⟩))) (φ2 := IsD (SA w S [bo28_9]) (Cl.d (l[k]'hlt))) (φ := Is (.bool (true))) (Ψ' := fun W => Own W bo28_9 [(.int .u8 (0)), (.int .i64 (0)), (.string (⟨#[]⟩)), (.slice none 0 0), (.slice none 0 0), (.map none), (.int .i64 (ofE x))] 74) ent35 (hlc rfl) (hlc rfl) (st_is _) stE_own (fun g u1 u2 W hk hg h1 h2 hP => by have h1 : u1 = _ := h1; subst u1; exact (quietD_ok 0 _ _ _ _ _ (ofE x) hE (l[k]'hlt) W (fun _ _ => False) _ _ (fun _ _ _ h => h) hP (rdCl_any h2))) ?_
      refine .done ⟨by kernel_rfl, fun a19 g W19 y19 zz19 hk hg hV hR hP => ?_⟩
      obtain ⟨-, -, -, -, -, -, -⟩ := hV
      replace e1 := (hR 1 rfl).trans e1
      replace e2 := (hR 2 rfl).trans e2
      replace e7 := (hR 7 rfl).trans e7
      replace e8 := (hR 8 rfl).trans e8
      replace D_vl := sa_keepL D_vl hk (by simp)
      replace D_vm := sa_keepL D_vm hk (by simp)
      have own_bo28_9 := hP
      replace own_bo28_9 : Own W19 bo28_9 [(.int .u8 (0)), (.int .i64 (0)), (.string (⟨#[]⟩)), (.slice none 0 0), (.slice none 0 0), (.map none), (.int .i64 (ofE x))] 74 := own_bo28_9
      replace kw := keeps_L kw hk (in_cons (.inl lo_bo28_9) in_nil)
      clear hR hk hg hP
      refine tail_nil (hK18 _ _ ?_)
      refine rg mixed y19 zz19 ?_
      refine .i (sp_move (hbs rfl e8)) ?_
      refine .i (sp_add (hlc rfl) Has.cst (i64_in (by omega))) ?_
      refine .i (sp_assign (hlc rfl)) ?_
      refine .done ⟨by kernel_rfl, fun a20 g W20 y20 zz20 hk hg hV hR hP => ?_⟩
      obtain ⟨e8, -, -, -⟩ := hV
      replace e1 := (hR 1 rfl).trans e1
      replace e2 := (hR 2 rfl).trans e2
      replace e7 := (hR 7 rfl).trans e7
      replace D_vl := D_vl.ext hk
      replace D_vm := D_vm.ext hk
      replace e8 := e8.q
      replace own_bo28_9 := own_bo28_9.ext hk
      replace kw := kw.x hk
      clear hR hk hg hP
      exact tail_nil ⟨hlt, y20, zz20, kw, e1, e2, e7, (e8.trans (congrArg (Value.int .i64) (by simp))), own_bo28_9, D_vl, D_vm⟩
     ·
      have hge0 : ¬ k < l.length := by simpa using hc
      have hge : k = l.length := by omega
      refine wp_exit (hK11 _ _ ?_)
      refine wp_seq_k fun K21 hK21 => ?_
      refine rg mixed y17 zz17 ?_
      refine .i (sp_move (hbs rfl e7)) ?_
      refine .i (v := (.int .i64 (errK 0 (ofE x)))) (sp_call1 (φ1 := Is (.pointer (some ⟨bo28_9, 0, none⟩))) ent24 (hlc rfl) (fun g u1 W hk hgk h1 => by have h1 : u1 = _ := h1; subst u1; exact Err_ok _ _ _ _ _ _ _ W _ (own_bo28_9.ext hk))) ?_
      refine .i (sp_assign (hlc rfl)) ?_
      refine .done ⟨by kernel_rfl, fun a22 g W22 y22 zz22 hk hg hV hR hP => ?_⟩
      obtain ⟨e9, -, -, -⟩ := hV
      replace e2 := (hR 2 rfl).trans e2
      replace e7 := (hR 7 rfl).trans e7
      replace D_vl := D_vl.ext hk
      replace D_vm := D_vm.ext hk
      have e9 : sl a22 9 = (.int .i64 (errK 0 (ofE x))) := e9
      replace own_bo28_9 := own_bo28_9.ext hk
      replace kw := kw.x hk
      clear hR hk hg hP
      refine tail_nil (hK21 _ _ ?_)
      refine wp_seq_k fun K23 hK23 => ?_
      refine wp_seq_k fun K24 hK24 => ?_
      refine rg mixed y22 zz22 ?_
      refine .i (sp_move (hbs rfl e9)) ?_
      refine .i (sp_eql (hlc rfl) Has.cst) ?_
      refine .done ⟨by kernel_rfl, fun a25 g W25 y25 zz25 hk hg hV hR hP => ?_⟩
      obtain ⟨e44, -, -⟩ := hV
      replace e2 := (hR 2 rfl).trans e2
      replace e7 := (hR 7 rfl).trans e7
      replace e9 := (hR 9 rfl).trans e9
      replace D_vm := D_vm.ext hk
      replace e44 := e44.q
      replace own_bo28_9 := own_bo28_9.ext hk
      replace kw := kw.x hk
      clear hR hk hg hP
      refine tail_nil (hK24 _ _ ?_)
      refine wp_cond_split e44 (fun hc => ?_) (fun hc => ?_)
      ·
       exact absurd (eq_of_beq hc) hE
      ·
       refine wp_skip (hK23 _ _ ?_)
       refine wp_seq_k fun K26 hK26 => ?_
       refine wp_seq_k fun K27 hK27 => ?_
       refine rg mixed y25 zz25 ?_
       refine .i (sp_assign Has.cst) ?_
       refine .done ⟨by kernel_rfl, fun a28 g W28 y28 zz28 hk hg hV hR hP => ?_⟩
       obtain ⟨e10, -⟩ := hV
       replace e2 := (hR 2 rfl).trans e2
       replace e7 := (hR 7 rfl).trans e7
       replace e9 := (hR 9 rfl).trans e9
       replace D_vm := D_vm.ext hk
       have e10 : sl a28 10 = (.int .i64 (0)) := e10
       replace own_bo28_9 := own_bo28_9.ext hk
       replace kw := kw.x hk
       clear hR hk hg hP
       refine tail_nil (hK27 _ _ ?_)
       refine wp_block ?_
       refine wp_for (more.length) (fun j a W => a.tmps.size = 82 ∧ a.defers = [] ∧ Keeps All w W ∧ sl a 2 = (.slice vma (more.length) vmc) ∧ sl a 7 = (.pointer (some ⟨bo28_9, 0, none⟩)) ∧ sl a 9 = (.int .i64 (errK 0 (ofE x))) ∧ sl a 10 = (.int .i64 ((j : Nat))) ∧ Own W bo28_9 [(.int .u8 (0)), (.int .i64 (0)), (.string (⟨#[]⟩)), (.slice none 0 0), (.slice none 0 0), (.map none), (.int .i64 (ofE x))] 74 ∧ Rd W (SA w S [bo28_9]) (clsD (more)) (.slice vma (more.length) vmc)) ⟨y28, zz28, kw, e2, e7, e9, (e10.trans (congrArg (Value.int .i64) (rfl))), own_bo28_9, D_vm⟩ ?_
       clear kw e2 e7 e9 e10 own_bo28_9 D_vm
       rintro j a29 W29 hkj ⟨y29, zz29, kw, e2, e7, e9, e10, own_bo28_9, D_vm⟩
       refine wp_seq_k fun K30 hK30 => ?_
       refine wp_seq_k fun K31 hK31 => ?_
       refine rg mixed y29 zz29 ?_
       refine .i (sp_move (hbs rfl e10)) ?_
       refine .i (sp_move (hbs rfl e2)) ?_
       refine .i (sp_lenL Try.underlying46 ((hlc rfl).dat D_vm sub_all)) ?_
       refine .i (sp_lss (hlc rfl) (hlc rfl)) ?_
       refine .done ⟨by kernel_rfl, fun a32 g W32 y32 zz32 hk hg hV hR hP => ?_⟩
       obtain ⟨e56, -, -, -, -⟩ := hV
       replace e2 := (hR 2 rfl).trans e2
       replace e7 := (hR 7 rfl).trans e7
       replace e9 := (hR 9 rfl).trans e9
       replace e10 := (hR 10 rfl).trans e10
       replace D_vm := D_vm.ext hk
       replace e56 := e56.q
       replace own_bo28_9 := own_bo28_9.ext hk
       replace kw := kw.x hk
       clear hR hk hg hP
       refine tail_nil (hK31 _ _ ?_)
       refine wp_cond_split e56 (fun hc => ?_) (fun hc => ?_)
       ·
        have hlt : j < more.length := by simpa using hc
        have hltj := hlt
        refine wp_skip (hK30 _ _ ?_)
        refine wp_seq_k fun K33 hK33 => ?_
        refine wp_block ?_
        refine wp_seq_k fun K34 hK34 => ?_
        refine wp_reg (fun k => k ∉ [bo28_9]) (Ψ := fun W => Own W bo28_9 [(.int .u8 (0)), (.int .i64 (0)), (.string (⟨#[]⟩)), (.slice none 0 0), (.slice none 0 0), (.map none), (.int .i64 (ofE x))] 74) mixed y32 zz32 stE_own own_bo28_9 ?_
        refine .i (sp_move (hbs rfl e7)) ?_
        refine .i (sp_move (hbs rfl e2)) ?_
        refine .i (sp_move (hbs rfl e10)) ?_
        refine .op (φ := IsR (SA w S [bo28_9]) (Cl.d (more[j]'hltj))) (st_r (sub_nl (by simp))) (sp_indexL (i := j) ((hlc rfl).dat D_vm (sub_nl (by simp))) (hlc rfl) Try.underlying46 sz54 rfl hltj) ?_
        refine .op (φ := IsD (SA w S [bo28_9]) (Cl.d (more[j]'hltj))) (st_d (sub_nl (by simp))) (sp_loadR (hlc rfl) agg54 sz54 (width_Cl _)) ?_
        refine .callL2 (φ1 := Is (.pointer (some ⟨bo28_9, 0, none⟩))) (φ2 := IsD (SA w S [bo28_9]) (Cl.d (more[j]'hltj))) (φ := Is (.bool (true))) (Ψ' := fun W => Own W bo28_9 [(.int .u8 (0)), (.int .i64 (0)), (.string (⟨#[]⟩)), (.slice none 0 0), (.slice none 0 0), (.map none), (.int .i64 (ofE x))] 74) ent35 (hlc rfl) (hlc rfl) (st_is _) stE_own (fun g u1 u2 W hk hg h1 h2 hP => by have h1 : u1 = _ := h1; subst u1; exact (quietD_ok 0 _ _ _ _ _ (ofE x) hE (more[j]'hltj) W (fun _ _ => False) _ _ (fun _ _ _ h => h) hP (rdCl_any h2))) ?_
        refine .done ⟨by kernel_rfl, fun a35 g W35 y35 zz35 hk hg hV hR hP => ?_⟩
        obtain ⟨e64, -, -, -, -, -, -⟩ := hV
        replace e2 := (hR 2 rfl).trans e2
        replace e7 := (hR 7 rfl).trans e7
        replace e9 := (hR 9 rfl).trans e9
        replace e10 := (hR 10 rfl).trans e10
        have e64 : sl a35 64 = (.bool (true)) := e64
        replace D_vm := sa_keepL D_vm hk (by simp)
        have own_bo28_9 := hP
        replace own_bo28_9 : Own W35 bo28_9 [(.int .u8 (0)), (.int .i64 (0)), (.string (⟨#[]⟩)), (.slice none 0 0), (.slice none 0 0), (.map none), (.int .i64 (ofE x))] 74 := own_bo28_9
        replace kw := keeps_L kw hk (in_cons (.inl lo_bo28_9) in_nil)
        clear hR hk hg hP
        refine tail_reg 2 All y35 zz35 st_tr trivial rfl ?_
        refine .i (sp_not (hbs rfl e64)) ?_
        refine .i (sp_move (hlc rfl)) ?_
        refine .done ⟨by kernel_rfl, fun a36 g W36 y36 zz36 hk hg hV hR hP => ?_⟩
        refine tail_nil ?_
        show runTail _ _ _ _ _ _
        obtain ⟨e66, -, -⟩ := hV
        replace e2 := (hR 2 rfl).trans e2
        replace e7 := (hR 7 rfl).trans e7
        replace e9 := (hR 9 rfl).trans e9
        replace e10 := (hR 10 rfl).trans e10
        replace D_vm := D_vm.ext hk
        have e66 : sl a36 66 = (.bool (!true)) := e66
        replace own_bo28_9 := own_bo28_9.ext hk
        replace kw := kw.x hk
        clear hR hk hg hP
        refine tail_ung 7 66 false rfl 4 rfl (e66.trans (congrArg Value.bool rfl)) ?_
        refine tail_reg 6 All y36 zz36 st_tr trivial rfl ?_
        refine .i (sp_move (hbs rfl e7)) ?_
        refine .i (v := (.int .i64 (errK 0 (ofE x)))) (sp_call1 (φ1 := Is (.pointer (some ⟨bo28_9, 0, none⟩))) ent24 (hlc rfl) (fun g u1 W hk hgk h1 => by have h1 : u1 = _ := h1; subst u1; exact Err_ok _ _ _ _ _ _ _ W _ (own_bo28_9.ext hk))) ?_
        refine .i (sp_move (hbs rfl e9)) ?_
        refine .i (sp_neq (hlc rfl) (hlc rfl)) ?_
        refine .i (sp_or (hbs rfl e66) ((hlc rfl).toU)) ?_
        refine .i (sp_move (hlc rfl)) ?_
        refine .done ⟨by kernel_rfl, fun a37 g W37 y37 zz37 hk hg hV hR hP => ?_⟩
        refine tail_nil ?_
        show runTail _ _ _ _ _ _
        obtain ⟨e72, -, -, -, -, -, -⟩ := hV
        replace e2 := (hR 2 rfl).trans e2
        replace e7 := (hR 7 rfl).trans e7
        replace e9 := (hR 9 rfl).trans e9
        replace e10 := (hR 10 rfl).trans e10
        replace D_vm := D_vm.ext hk
        replace e72 := e72.q
        replace own_bo28_9 := own_bo28_9.ext hk
        replace kw := kw.x hk
        clear hR hk hg hP
        refine tail_ung 13 72 false rfl 4 rfl (e72.trans (congrArg Value.bool (by simp))) ?_
        refine tail_reg 5 All y37 zz37 st_tr trivial rfl ?_
        refine .i (sp_move (hbs rfl e7)) ?_
        refine .i (v := (.int .i64 (errK 0 (ofE x)))) (sp_call1 (φ1 := Is (.pointer (some ⟨bo28_9, 0, none⟩))) ent32 (hlc rfl) (fun g u1 W hk hgk h1 => by have h1 : u1 = _ := h1; subst u1; exact DoneD_ok _ _ _ _ _ _ _ hE W _ (own_bo28_9.ext hk))) ?_
        refine .i (sp_move (hbs rfl e9)) ?_
        refine .i (sp_neq (hlc rfl) (hlc rfl)) ?_
        refine .i (sp_or (hbs rfl e72) ((hlc rfl).toU)) ?_
        refine .done ⟨by kernel_rfl, fun a38 g W38 y38 zz38 hk hg hV hR hP => ?_⟩
        refine tail_nil ?_
        show runTail _ _ _ _ _ _
        obtain ⟨e77, -, -, -, -, -⟩ := hV
        replace e2 := (hR 2 rfl).trans e2
        replace e7 := (hR 7 rfl).trans e7
        replace e9 := (hR 9 rfl).trans e9
        replace e10 := (hR 10 rfl).trans e10
        replace D_vm := D_vm.ext hk
        replace e77 := e77.q
        replace own_bo28_9 := own_bo28_9.ext hk
        replace kw := kw.x hk
        clear hR hk hg hP
        refine tail_nil (hK34 _ _ ?_)
        refine wp_cond_split e77 (fun hc => ?_) (fun hc => ?_)
        ·
         exfalso
         simp at hc
        ·
         refine wp_skip (hK33 _ _ ?_)
         refine rg mixed y38 zz38 ?_
         refine .i (sp_move (hbs rfl e10)) ?_
         refine .i (sp_add (hlc rfl) Has.cst (i64_in (by omega))) ?_
         refine .i (sp_assign (hlc rfl)) ?_
         refine .done ⟨by kernel_rfl, fun a39 g W39 y39 zz39 hk hg hV hR hP => ?_⟩
         obtain ⟨e10, -, -, -⟩ := hV
         replace e2 := (hR 2 rfl).trans e2
         replace e7 := (hR 7 rfl).trans e7
         replace e9 := (hR 9 rfl).trans e9
         replace D_vm := D_vm.ext hk
         replace e10 := e10.q
         replace own_bo28_9 := own_bo28_9.ext hk
         replace kw := kw.x hk
         clear hR hk hg hP
         exact tail_nil ⟨hltj, y39, zz39, kw, e2, e7, e9, (e10.trans (congrArg (Value.int .i64) (by simp))), own_bo28_9, D_vm⟩
       ·
        have hge0 : ¬ j < more.length := by simpa using hc
        have hge : j = more.length := by omega
        refine wp_exit (hK26 _ _ ?_)
        refine wp_seq_k fun K40 hK40 => ?_
        refine rg mixed y32 zz32 ?_
        refine .i (sp_move (hbs rfl e7)) ?_
        refine .i (v := (.int .i64 (errK 0 (ofE x)))) (sp_call1 (φ1 := Is (.pointer (some ⟨bo28_9, 0, none⟩))) ent32 (hlc rfl) (fun g u1 W hk hgk h1 => by have h1 : u1 = _ := h1; subst u1; exact DoneD_ok _ _ _ _ _ _ _ hE W _ (own_bo28_9.ext hk))) ?_
        refine .i (sp_move (hbs rfl e9)) ?_
        refine .i (sp_eql (hlc rfl) (hlc rfl)) ?_
        refine .i (sp_assign (hlc rfl)) ?_
        refine .done ⟨by kernel_rfl, fun a41 g W41 y41 zz41 hk hg hV hR hP => ?_⟩
        obtain ⟨e6, -, -, -, -, -⟩ := hV
        replace D_vm := D_vm.ext hk
        replace e6 := e6.q
        replace own_bo28_9 := own_bo28_9.ext hk
        replace kw := kw.x hk
        clear hR hk hg hP
        refine tail_nil (hK40 _ _ ?_)
        refine wp_ret ?_
        refine (show bodyPost Try.prog Try.f5 _ .ret _ _ from ret1 rfl zz41 e6 ⟨_, rfl, kw, ?_⟩)
        refine congrArg Value.bool ?_
        simp
end Go.Proofs.Ytnobijngkpflcaa
namespace Go.Eng
open Go.ChangeShapes Go.WideShapes Go.ChangeAt Go.RowKit
def Univ : BSet := fun _ _ => True
mutual
def HasT (P : Program) : D → TypeId → Prop
  | .bool _, t => P.underlying t = some .bool
  | .int k n, t => P.underlying t = some (.int k) ∧ (Lit.int k n).wf = true
  | .str s, t => P.underlying t = some .string ∧ s.size ≤ maxLen
  | .lst sz xs, t => ∃ e, P.underlying t = some (.slice e) ∧ sz = P.cellsOf e ∧ HasTL P xs e
  | .agg xs, t => ∃ fs, P.underlying t = some (.struct fs) ∧ HasTF P xs (fs.toList.map (·.type))
def HasTL (P : Program) : List D → TypeId → Prop
  | [], _ => True
  | x :: xs, e => HasT P x e ∧ HasTL P xs e
def HasTF (P : Program) : List D → List TypeId → Prop
  | [], [] => True
  | x :: xs, t :: ts => HasT P x t ∧ HasTF P xs ts
  | _, _ => False
end
theorem hasTL_of {P : Program} {e : TypeId} : ∀ (xs : List D), (∀ i (h : i < xs.length), HasT P xs[i] e) → HasTL P xs e
  | [], _ => by simp [HasTL]
  | x :: xs, h => by
    simp only [HasTL]
    exact ⟨h 0 (by simp), hasTL_of xs fun i hi => h (i + 1) (by simpa using hi)⟩
def offs (P : Program) : List Field → Nat → Option Nat
  | [], o => some o
  | f :: r, o => if f.offset = o then offs P r (o + P.cellsOf f.type) else none
def plain1 (P : Program) (ts : List TypeId) (t : TypeId) : Bool := match P.underlying t with
  | some .bool => true
  | some (.int _) => true
  | some .string => true
  | some (.slice e) => ts.contains e && decide (0 < P.cellsOf e)
  | some (.struct fs) => (fs.toList.all fun f => ts.contains f.type) && decide (offs P fs.toList 0 = some (P.cellsOf t))
  | _ => false
theorem exists_list {α : Type} {p : Nat → α → Prop} : ∀ n : Nat, (∀ i, i < n → ∃ x, p i x) → ∃ xs : List α, xs.length = n ∧ ∀ i (h : i < xs.length), p i xs[i]
  | 0, _ => ⟨[], rfl, fun i h => by simp at h⟩
  | n + 1, h => by
    obtain ⟨xs, hl, hx⟩ := exists_list n fun i hi => h i (by omega)
    obtain ⟨x, hp⟩ := h n (by omega)
    refine ⟨xs ++ [x], by simp [hl], fun i hi => ?_⟩
    by_cases hin : i < n
    · rw [List.getElem_append_left (by omega)]; exact hx i (by omega)
    · have : i = n := by simp at hi; omega
      subst this
      rw [List.getElem_append_right (by omega)]; simpa [hl] using hp
section
variable {H : Type} {enc : TypeId × Value → H} {P : Program} {W : World}
theorem fields_rd {n : Nat} {cs : List Value} {ts : List TypeId} (ih : ∀ t c y, t ∈ ts → DataW.trod enc P W 0 (fun _ => true) true n t c = some y → ∃ d, RdC W Univ d c ∧ HasT P d t) :
    ∀ (fs : List Field) (o : Nat), offs P fs o = some cs.length → (∀ f ∈ fs, f.type ∈ ts) → (∀ f ∈ fs, ∃ y, DataW.trod enc P W 0 (fun _ => true) true n f.type ((cs.drop f.offset).take (P.cellsOf f.type)) = some y) →
      ∃ ds, RdF W Univ ds (cs.drop o) ∧ HasTF P ds (fs.map (·.type))
  | [], o, ho, _, _ => by
    simp only [offs, Option.some.injEq] at ho
    subst ho
    exact ⟨[], by simp [RdF], by simp [HasTF]⟩
  | f :: fs, o, ho, hm, hr => by
    simp only [offs] at ho
    split at ho
    · rename_i hoff
      subst hoff
      obtain ⟨ds, h1, h2⟩ := fields_rd ih fs _ ho (fun g hg => hm g (List.mem_cons_of_mem _ hg)) (fun g hg => hr g (List.mem_cons_of_mem _ hg))
      obtain ⟨y, hy⟩ := hr f List.mem_cons_self
      obtain ⟨d, h3, h4⟩ := ih _ _ _ (hm f List.mem_cons_self) hy
      refine ⟨d :: ds, ?_, by simp only [List.map_cons, HasTF]; exact ⟨h4, h2⟩⟩
      simp only [RdF]
      exact ⟨_, _, by rw [← List.drop_drop]; exact (List.take_append_drop _ _).symm, h3, h1⟩
    · cases ho
theorem trod_rd {ts : List TypeId} (hp : (ts.all (plain1 P ts)) = true) : ∀ (n : Nat) (t : TypeId) (cs : List Value) (y : DataW H × List MemPlace), t ∈ ts → DataW.trod enc P W 0 (fun _ => true) true n t cs = some y → ∃ d, RdC W Univ d cs ∧ HasT P d t := by
  intro n
  induction n with
  | zero => intro t cs y _ h; simp [DataW.trod] at h
  | succ n ih =>
    intro t cs y ht h
    have hpt := List.all_eq_true.1 hp t ht
    unfold plain1 at hpt
    split at hpt
    · rename_i hu
      obtain ⟨b, rfl, _⟩ := DataW.trod_bool hu h
      exact ⟨.bool b, by simp [RdC], by simp [HasT, hu]⟩
    · rename_i k hu
      obtain ⟨b, rfl, _, hw⟩ := DataW.trod_int hu h
      exact ⟨.int k b, by simp [RdC], by simp [HasT, hu, hw]⟩
    · rename_i hu
      obtain ⟨s, rfl, _, hw⟩ := DataW.trod_string hu h
      exact ⟨.str s, by simp [RdC, hw], by simp [HasT, hu, hw]⟩
    · rename_i e hu
      simp only [Bool.and_eq_true, decide_eq_true_eq] at hpt
      have het : e ∈ ts := by simpa using hpt.1
      rcases DataW.trod_slice hu h with ⟨rfl, _⟩ | ⟨a, len, cap, elems, rest, n', hn', rfl, _, _, hlc, hcm, hle, hel, _⟩
      · exact ⟨.lst (P.cellsOf e) [], by simp only [RdC]; exact ⟨none, 0, rfl, by simp, by simp, .inl trivial⟩, by simp only [HasT]; exact ⟨e, hu, rfl, by simp [HasTL]⟩⟩
      · have hnn : n' = n := by omega
        subst hnn
        have each : ∀ i, i < len → ∃ d, (∃ c, c.length = P.cellsOf e ∧ CellsAt W a.block (a.off + i * P.cellsOf e) c ∧ RdC W Univ d c) ∧ HasT P d e := by
          intro i hi
          have h1 := hel i hi
          rw [List.getElem?_eq_getElem (by omega), Option.bind_eq_some_iff] at h1
          obtain ⟨c, hc, hy⟩ := h1
          obtain ⟨d, h2, h3⟩ := ih e c _ het hy
          obtain ⟨_, hlen, hcell⟩ := World.cells?_some hc
          have hoff : ∀ j, W.cell? ((a.add (i * P.cellsOf e)).add j) = none ∨ (a.add (i * P.cellsOf e)).add j = ⟨a.block, a.off + i * P.cellsOf e + j, none⟩ := by
            intro j
            by_cases hsp : (a.add (i * P.cellsOf e)).spot.isSome = true ∧ j = 0
            · left
              obtain ⟨h4, rfl⟩ := hsp
              have : ((a.add (i * P.cellsOf e)).add 0) = a.add (i * P.cellsOf e) := by simp [Addr.add]
              rw [this]
              unfold World.cell?
              split <;> simp [h4]
            · right
              unfold Addr.add at hsp ⊢
              by_cases h0 : i * P.cellsOf e = 0
              · simp only [h0, if_true] at hsp ⊢
                by_cases hj : j = 0
                · subst hj
                  simp at hsp
                  cases a; simp_all
                · simp [hj]
              · simp only [h0, if_false] at hsp ⊢
                by_cases hj : j = 0 <;> simp [hj]
          refine ⟨d, ⟨c, hlen, fun j hj => ?_, h2⟩, h3⟩
          have h5 := hcell j (by omega)
          rw [List.getElem?_eq_getElem hj] at h5
          rcases hoff j with h6 | h6
          · rw [h6] at h5; cases h5
          · rw [h6] at h5; exact h5
        obtain ⟨ds, hdl, hd⟩ := exists_list len each
        refine ⟨.lst (P.cellsOf e) ds, ?_, by simp only [HasT]; exact ⟨e, hu, rfl, hasTL_of ds fun i hi => (hd i hi).2⟩⟩
        simp only [RdC]
        refine ⟨some a, cap, by rw [hdl], by omega, hcm, ?_⟩
        by_cases h0 : len = 0
        · left; exact List.length_eq_zero_iff.1 (by omega)
        · right
          obtain ⟨c, hcl, hc, _⟩ := (hd 0 (by omega)).1
          have hc0 := hc 0 (by omega)
          have hsp : a.spot = none := by
            have h1 := hel 0 (by omega)
            rw [List.getElem?_eq_getElem (by omega), Option.bind_eq_some_iff] at h1
            obtain ⟨c', hc', _⟩ := h1
            have h2 := (World.cells?_some hc').2.2 0 hpt.2
            have h3 := (World.cells?_some hc').2.1
            rw [List.getElem?_eq_getElem (by omega)] at h2
            simp only [Nat.zero_mul, Addr.add, if_true] at h2
            unfold World.cell? at h2
            split at h2
            · split at h2
              · cases h2
              · rename_i hs; simpa using hs
            · cases h2
          have hblk : a.block < W.heap.size := by
            simp only [Nat.zero_mul, Nat.add_zero] at hc0
            unfold World.cell? at hc0
            split at hc0
            · rename_i hq; exact (Array.getElem?_eq_some_iff.1 hq).1
            · cases hc0
          exact ⟨a.block, a.off, by cases a; simp_all, trivial, hblk, RdL.of fun i hi => (hd i hi).1⟩
    · rename_i fs hu
      simp only [Bool.and_eq_true, decide_eq_true_eq, List.all_eq_true] at hpt
      obtain ⟨xs, n', hn', _, hlen, hxl, hfs⟩ := DataW.trod_struct hu h
      have hnn : n' = n := by omega
      subst hnn
      obtain ⟨ds, h1, h2⟩ := fields_rd (cs := cs) ih fs.toList 0 (by rw [hlen]; exact hpt.2) (fun f hf => by simpa using hpt.1 f hf) (fun f hf => by
        obtain ⟨i, hi⟩ := List.getElem?_of_mem hf
        have hi' : fs[i]? = some f := by simpa using hi
        have hil : i < fs.size := (Array.getElem?_eq_some_iff.1 hi').1
        exact ⟨xs[i], by rw [hfs i f hi']; exact List.getElem?_eq_getElem (by omega)⟩)
      exact ⟨.agg ds, by simpa [RdC] using h1, by simp only [HasT]; exact ⟨fs, hu, h2⟩⟩
    · cases hpt
theorem arg_struct {ts : List TypeId} {t : TypeId} {fs : Array Field} {v : Value} {d : DataW H} {ps : List MemPlace} {base : Nat} (hp : (ts.all (plain1 P ts)) = true) (ht : t ∈ ts) (hu : P.underlying t = some (.struct fs)) (hval : Value.okWide P W .any base t v)
    (h : DataW.Trod enc P W 0 (fun _ => true) true t v d ps) : ∃ dd, Rd W Univ dd v ∧ HasT P dd t := by
  obtain ⟨n, h⟩ := h
  obtain ⟨dd, h1, h2⟩ := trod_rd hp n t _ _ ht h
  refine ⟨dd, ⟨_, h1, ?_⟩, h2⟩
  unfold Value.okWide at hval
  rw [hu] at hval
  obtain ⟨cs, rfl, _⟩ := hval
  cases dd with
  | agg xs => simp [asm, Value.cells]
  | bool b => simp [HasT, hu] at h2
  | int k m => simp [HasT, hu] at h2
  | str s => simp [HasT, hu] at h2
  | lst sz xs => simp [HasT, hu] at h2
theorem hasT_strs {t : TypeId} (hs : P.underlying t = some .string) : ∀ xs : List D, HasTL P xs t → ∃ ns : List ByteArray, xs = ns.map D.str
  | [], _ => ⟨[], rfl⟩
  | x :: xs, h => by
    simp only [HasTL] at h
    obtain ⟨ns, rfl⟩ := hasT_strs hs xs h.2
    cases x with
    | str s => exact ⟨s :: ns, rfl⟩
    | bool b => simp [HasT, hs] at h
    | int k m => simp [HasT, hs] at h
    | lst sz xs => simp [HasT, hs] at h
    | agg xs => simp [HasT, hs] at h
structure VT (P : Program) (tV tK tN tS tNs tXs : TypeId) : Prop where
  v : ((P.underlying tV).bind fun | .struct fs => some (fs.toList.map (·.type)) | _ => none) = some [tK, tN, tS, tNs, tXs]
  k : P.underlying tK = some (.int .u8)
  n : P.underlying tN = some (.int .i64)
  s : P.underlying tS = some .string
  ns : P.underlying tNs = some (.slice tS)
  xs : P.underlying tXs = some (.slice tV)
  c1 : P.cellsOf tS = 1
  c5 : P.cellsOf tV = 5
theorem hasT_int {t : TypeId} {k : IntKind} (hu : P.underlying t = some (.int k)) : ∀ d : D, HasT P d t → ∃ n, d = .int k n ∧ (Lit.int k n).wf = true
  | .int k' n, h => by simp only [HasT, hu, Option.some.injEq, TypeDesc.int.injEq] at h; obtain ⟨rfl, h⟩ := h; exact ⟨n, rfl, h⟩
  | .bool b, h => by simp [HasT, hu] at h
  | .str s, h => by simp [HasT, hu] at h
  | .lst sz xs, h => by simp [HasT, hu] at h
  | .agg xs, h => by simp [HasT, hu] at h
theorem hasT_str {t : TypeId} (hu : P.underlying t = some .string) : ∀ d : D, HasT P d t → ∃ s, d = .str s ∧ s.size ≤ maxLen
  | .str s, h => by simp only [HasT] at h; exact ⟨s, rfl, h.2⟩
  | .bool b, h => by simp [HasT, hu] at h
  | .int k n, h => by simp [HasT, hu] at h
  | .lst sz xs, h => by simp [HasT, hu] at h
  | .agg xs, h => by simp [HasT, hu] at h
theorem hasT_lst {t e : TypeId} (hu : P.underlying t = some (.slice e)) : ∀ d : D, HasT P d t → ∃ xs, d = .lst (P.cellsOf e) xs ∧ HasTL P xs e
  | .lst sz xs, h => by
    simp only [HasT, hu, Option.some.injEq, TypeDesc.slice.injEq] at h
    obtain ⟨e', rfl, rfl, h⟩ := h
    exact ⟨xs, rfl, h⟩
  | .bool b, h => by simp [HasT, hu] at h
  | .int k n, h => by simp [HasT, hu] at h
  | .str s, h => by simp [HasT, hu] at h
  | .agg xs, h => by simp [HasT, hu] at h
theorem hasT_agg {t : TypeId} {ts : List TypeId} (hu : ((P.underlying t).bind fun | .struct fs => some (fs.toList.map (·.type)) | _ => none) = some ts) : ∀ d : D, HasT P d t → ∃ xs, d = .agg xs ∧ HasTF P xs ts
  | .agg xs, h => by
    simp only [HasT] at h
    obtain ⟨fs, h1, h2⟩ := h
    rw [h1] at hu
    simp only [Option.bind_some, Option.some.injEq] at hu
    subst hu
    exact ⟨xs, rfl, h2⟩
  | .bool b, h => by simp only [HasT] at h; rw [h] at hu; simp at hu
  | .int k n, h => by simp only [HasT] at h; rw [h.1] at hu; simp at hu
  | .str s, h => by simp only [HasT] at h; rw [h.1] at hu; simp at hu
  | .lst sz xs, h => by simp only [HasT] at h; obtain ⟨e, h1, _⟩ := h; rw [h1] at hu; simp at hu
theorem hasV {tV tK tN tS tNs tXs : TypeId} (q : VT P tV tK tN tS tNs tXs) : ∀ (n : Nat) (d : D), SizeOf.sizeOf d < n → HasT P d tV → ∃ x : V, d = x.d := by
  intro n
  induction n with
  | zero => intro d h; omega
  | succ n ih =>
    intro d hn h
    obtain ⟨xs, rfl, hf⟩ := hasT_agg q.v d h
    match xs, hf with
    | [a, b, c, e, f], hf =>
      simp only [HasTF] at hf
      obtain ⟨ha, hb, hc, he, hf, -⟩ := hf
      obtain ⟨k, rfl, hk⟩ := hasT_int q.k _ ha
      obtain ⟨m, rfl, hm⟩ := hasT_int q.n _ hb
      obtain ⟨t, rfl, _⟩ := hasT_str q.s _ hc
      obtain ⟨l1, rfl, h1⟩ := hasT_lst q.ns _ he
      obtain ⟨l2, rfl, h2⟩ := hasT_lst q.xs _ hf
      obtain ⟨ns, rfl⟩ := hasT_strs q.s l1 h1
      have key : ∀ l : List D, SizeOf.sizeOf l < n → HasTL P l tV → ∃ ys : List V, l = ys.map V.d := by
        intro l
        induction l with
        | nil => intro _ _; exact ⟨[], rfl⟩
        | cons x l ihl =>
          intro hl hx
          simp only [HasTL] at hx
          simp only [List.cons.sizeOf_spec] at hl
          obtain ⟨y, rfl⟩ := ih x (by omega) hx.1
          obtain ⟨ys, rfl⟩ := ihl (by omega) hx.2
          exact ⟨y :: ys, rfl⟩
      obtain ⟨ys, rfl⟩ := key l2 (by
        simp only [D.agg.sizeOf_spec, List.cons.sizeOf_spec, D.lst.sizeOf_spec] at hn
        omega) h2
      refine ⟨V.mk k.toNat m t ns ys, ?_⟩
      have hk0 : (k.toNat : Int) = k := by
        simp only [Lit.wf, Bool.and_eq_true, decide_eq_true_eq] at hk
        have h0 : IntKind.min .u8 = 0 := by decide
        have : (0 : Int) ≤ k := by have := hk.1; rw [h0] at this; exact this
        omega
      rw [V.d_eq]
      simp only [V.k, V.n, V.t, V.ns, V.xs, hk0, q.c1, q.c5, strsD, valsD]
    | [], hf => simp [HasTF] at hf
    | [_], hf => simp [HasTF] at hf
    | [_, _], hf => simp [HasTF] at hf
    | [_, _, _], hf => simp [HasTF] at hf
    | [_, _, _, _], hf => simp [HasTF] at hf
    | _ :: _ :: _ :: _ :: _ :: _ :: _, hf => simp [HasTF] at hf
theorem arg_V {tV tK tN tS tNs tXs : TypeId} (q : VT P tV tK tN tS tNs tXs) {ts : List TypeId} {fs : Array Field} {v : Value} {d : DataW H} {ps : List MemPlace} {base : Nat} (hp : (ts.all (plain1 P ts)) = true) (ht : tV ∈ ts) (hu : P.underlying tV = some (.struct fs)) (hval : Value.okWide P W .any base tV v)
    (h : DataW.Trod enc P W 0 (fun _ => true) true tV v d ps) : ∃ x : V, Rd W Univ x.d v := by
  obtain ⟨dd, h1, h2⟩ := arg_struct hp ht hu hval h
  obtain ⟨x, rfl⟩ := hasV q _ dd (Nat.lt_succ_self _) h2
  exact ⟨x, h1⟩
theorem trodAll_stays (hl : laidOutB P = true) {W' : World} (hb : Below W.heap.size W W') : ∀ (ts : List TypeId) (vs : List Value) (ds : List (DataW H)) (ps : List MemPlace), (∀ t ∈ ts, P.readableRec t = true ∧ t < P.types.size) → (∀ x ∈ ps, x.block < W.heap.size) →
    DataW.TrodAll enc P W 0 (fun _ => true) true ts vs ds ps → DataW.TrodAll enc P W' 0 (fun b => decide (b < W.heap.size)) true ts vs ds ps
  | [], [], [], _, _, _, h => h
  | t :: ts, v :: vs, d :: ds, ps, ht, hlt, h => by
    obtain ⟨p, q, h1, h2, rfl⟩ := h
    exact ⟨p, q, Below.trod hl (ht t List.mem_cons_self).1 (ht t List.mem_cons_self).2 h1 hb (fun x hx => hlt x (List.mem_append_left _ hx)),
      trodAll_stays hl hb ts vs ds q (fun t h => ht t (List.mem_cons_of_mem _ h)) (fun x hx => hlt x (List.mem_append_right _ hx)) h2, rfl⟩
  | [], [], _ :: _, _, _, _, h => h.elim
  | [], _ :: _, _, _, _, _, h => h.elim
  | _ :: _, [], _, _, _, _, h => h.elim
  | _ :: _, _ :: _, [], _, _, _, h => h.elim
theorem law_post {f : Func} {s : ChangeSpec} {W' : World} {args : Array Value} {ds gs : List (DataW H)} {before : List MemPlace} {tb : TypeId} (hl : laidOutB P = true) (hpar : ∀ t ∈ f.params.toList, P.readableRec t = true ∧ t < P.types.size)
    (hvars : s.vars = []) (hrt : f.resultTypes = #[tb]) (hb : P.underlying tb = some .bool) (hfn : s.fn H (ds ++ gs) = { results := [.lit (.bool true)], args := ds })
    (hW : DataW.Whole enc P f.params.toList s.vars false W args.toList ds gs before) (hk : Ext W W') : s.post enc P f false true false false W args (.bool true) W' := by
  have hlt := hW.lt
  have hW' := hW
  obtain ⟨p, q, hA, hV, rfl, hfz, hnd⟩ := hW
  have hbel : Below W.heap.size W W' := ⟨hk.os, hk.tape, hk.output, hk.size, fun k h => hk.block k h trivial⟩
  refine ⟨ds, gs, p ++ q, [], p, [], hW', ?_, ?_, ?_, ?_, fun h => by cases h⟩
  · rw [hfn, hrt]
    exact ⟨[], [], ⟨1, by simp [Value.resultList, Value.cells, DataW.trod, hb]⟩, rfl, rfl⟩
  · rw [hfn]
    exact trodAll_stays hl hbel _ _ _ _ hpar (fun x hx => hlt x (List.mem_append_left _ hx)) hA
  · rw [hfn, hvars]; rfl
  · refine ⟨hk.os, hk.output, fun i hi => ?_⟩
    rw [hk.block i hi trivial]
    cases hq : W.heap[i]? with
    | none => rfl
    | some o => cases o <;> simp
end
end Go.Eng
namespace Go.Eng
open Go.ChangeShapes Go.WideShapes Go.ChangeAt Go.RowKit
theorem arg_slice {H : Type} {enc : TypeId × Value → H} {P : Program} {W : World} {ts : List TypeId} {t e : TypeId} {v : Value} {d : DataW H} {ps : List MemPlace} {base : Nat} (hp : (ts.all (plain1 P ts)) = true) (ht : t ∈ ts) (hu : P.underlying t = some (.slice e)) (hval : Value.okWide P W .any base t v)
    (h : DataW.Trod enc P W 0 (fun _ => true) true t v d ps) : ∃ dd, Rd W Univ dd v ∧ HasT P dd t := by
  obtain ⟨n, h⟩ := h
  obtain ⟨dd, h1, h2⟩ := trod_rd hp n t _ _ ht h
  refine ⟨dd, ⟨_, h1, ?_⟩, h2⟩
  unfold Value.okWide at hval
  rw [hu] at hval
  simp only [Cell.okWide, hu, Cell.ok] at hval
  have hc : v.cells.toList = [v] := by
    cases v <;> first | rfl | (exfalso; simp at hval)
  rw [hc]
  cases dd with
  | agg xs => simp [HasT, hu] at h2
  | bool b => rfl
  | int k m => rfl
  | str s => rfl
  | lst sz xs => rfl
end Go.Eng
