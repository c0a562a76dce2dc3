/-
  The law VoteNames of package legatelaw30 (a closed statement) returns true. No condition beyond the row's own.
-/
import Derived.Test.YtnobijngkpflcaaVn4
import Derived.ProofKit
import Derived.Test.YtnobijngkpflcaaRows
namespace Go.Proofs.Ytnobijngkpflcaa
open Go.Eng
set_option maxRecDepth 100000 in
set_option maxHeartbeats 1000000 in
theorem VoteNames_ok (w : World) : Calls Try.prog 9 #[] w (Ret w fun u _ => u = .bool true) := by
  refine enter Try.func9 rfl Try.ntmps9 (lbr rfl) fun a0 y0 zz0 harg => ?_
  have kw := Keeps.refl All w
  clear harg
  refine wp_seq_k fun K1 hK1 => ?_
  refine rg mixed y0 zz0 ?_
  refine .i (sp_assign Has.cst) ?_
  refine .done ⟨by kernel_rfl, fun a2 g W2 y2 zz2 hk hg hV hR hP => ?_⟩
  obtain ⟨-, -⟩ := hV
  replace kw := kw.x hk
  clear hR hk hg hP
  refine tail_nil (hK1 _ _ ?_)
  refine wp_seq_k fun K3 hK3 => ?_
  refine wp_seq_k fun K4 hK4 => ?_
  refine rg mixed y2 zz2 ?_
  refine .i (v := (.bool (true))) (sp_call0  ent53  (fun g  W hk hgk  => awake30_ok W)) ?_
  refine .i (sp_not (hlc rfl)) ?_
  refine .i (sp_move (hlc rfl)) ?_
  refine .i (sp_and (hlc rfl) (Has.cst.toU)) ?_
  refine .done ⟨by kernel_rfl, fun a5 g W5 y5 zz5 hk hg hV hR hP => ?_⟩
  obtain ⟨e27, -, -, -, -⟩ := hV
  have e27 : sl a5 27 = (.bool ((!true) && true)) := e27
  replace kw := kw.x hk
  clear hR hk hg hP
  refine tail_nil (hK4 _ _ ?_)
  refine wp_cond_false (e27.trans (congrArg Value.bool (by decide))) ?_
  refine wp_skip (hK3 _ _ ?_)
  refine wp_seq_k fun K6 hK6 => ?_
  refine rg mixed y5 zz5 ?_
  refine .i (v := (.tuple #[(.pointer none), (.int .i64 (1))])) (sp_call1 (φ1 := Is (.int .i64 (0))) ent54 Has.cst (fun g u1 W hk hgk h1 => by have h1 : u1 = _ := h1; subst u1; exact New0_ok 0 (by decide) W)) ?_
  refine .i (sp_move (hlc rfl)) ?_
  refine .i (v := (.pointer none)) (sp_extT (hlc rfl) rfl) ?_
  refine .i (v := (.int .i64 (1))) (sp_extT (hlc rfl) rfl) ?_
  refine .i (sp_assign (hlc rfl)) ?_
  refine .i (sp_assign (hlc rfl)) ?_
  refine .done ⟨by kernel_rfl, fun a7 g W7 y7 zz7 hk hg hV hR hP => ?_⟩
  obtain ⟨e2, -, -, -, -, -, -⟩ := hV
  have e2 : sl a7 2 = (.int .i64 (1)) := e2
  replace kw := kw.x hk
  clear hR hk hg hP
  refine tail_nil (hK6 _ _ ?_)
  refine wp_seq_k fun K8 hK8 => ?_
  refine rg mixed y7 zz7 ?_
  refine .i (v := (.tuple #[(.pointer none), (.int .i64 (1))])) (sp_call1 (φ1 := Is (.int .i64 (9))) ent54 Has.cst (fun g u1 W hk hgk h1 => by have h1 : u1 = _ := h1; subst u1; exact New0_ok 9 (by decide) W)) ?_
  refine .i (sp_move (hlc rfl)) ?_
  refine .i (v := (.pointer none)) (sp_extT (hlc rfl) rfl) ?_
  refine .i (v := (.int .i64 (1))) (sp_extT (hlc rfl) rfl) ?_
  refine .i (sp_assign (hlc rfl)) ?_
  refine .i (sp_assign (hlc rfl)) ?_
  refine .done ⟨by kernel_rfl, fun a9 g W9 y9 zz9 hk hg hV hR hP => ?_⟩
  obtain ⟨e4, -, -, -, -, -, -⟩ := hV
  replace e2 := (hR 2 rfl).trans e2
  have e4 : sl a9 4 = (.int .i64 (1)) := e4
  replace kw := kw.x hk
  clear hR hk hg hP
  refine tail_nil (hK8 _ _ ?_)
  refine wp_seq_k fun K10 hK10 => ?_
  refine rg mixed y9 zz9 ?_
  refine .op (φ := IsT (IsNB W9 [(.int .i64 (8)), (.slice none 0 0)] 104) (Is (.int .i64 (0)))) (st_t st_nb (st_is _)) (sp_call1 (φ1 := Is (.int .i64 (8))) ent54 Has.cst (fun g u1 W hk hgk h1 => by have h1 : u1 = _ := h1; subst u1; exact (New_ok 8 (by decide) (by decide) W).mono (fun _ _ ⟨v, h1, h2, b, h3, h4, h5⟩ => ⟨v, h1, h2, _, _, h3, nb_up hk ⟨b, rfl, h4, h5⟩, rfl⟩))) ?_
  refine .op (φ := IsT (IsNB W9 [(.int .i64 (8)), (.slice none 0 0)] 104) (Is (.int .i64 (0)))) (st_t st_nb (st_is _)) (sp_move (hlc rfl)) ?_
  refine .op (φ := IsNB W9 [(.int .i64 (8)), (.slice none 0 0)] 104) st_nb (sp_ext2 (hlc rfl) rfl) ?_
  refine .i (v := (.int .i64 (0))) (sp_ext2' (hlc rfl) rfl) ?_
  refine .done ⟨by kernel_rfl, fun a11 g W11 y11 zz11 hk hg hV hR hP => ?_⟩
  obtain ⟨e39, e38, -, -, -⟩ := hV
  replace e2 := (hR 2 rfl).trans e2
  replace e4 := (hR 4 rfl).trans e4
  obtain ⟨bo38_11, e38, lr_bo38_11, own_bo38_11⟩ := e38
  have e38 : sl a11 38 = (.pointer (some ⟨bo38_11, 0, none⟩)) := e38
  have lo_bo38_11 : w.heap.size ≤ bo38_11 := Nat.le_trans kw.size lr_bo38_11
  have own_bo38_11 : Own W11 bo38_11 [(.int .i64 (8)), (.slice none 0 0)] 104 := own_bo38_11
  have e39 : sl a11 39 = (.int .i64 (0)) := e39
  replace kw := kw.x hk
  clear hR hk hg hP lr_bo38_11
  refine tail_assign (v := (.pointer (some ⟨bo38_11, 0, none⟩))) e38 (by rw [y11]; exact Nat.le_of_ble_eq_true rfl) (fun a12 y12 zz12 e5 hr => ?_)
  replace y12 := y12.trans y11; replace zz12 := zz12.trans zz11
  replace e2 := (hr 2 (by decide)).trans e2
  replace e4 := (hr 4 (by decide)).trans e4
  replace e39 := (hr 39 (by decide)).trans e39
  replace e38 := (hr 38 (by decide)).trans e38
  clear hr
  refine tail_assign (v := (.int .i64 (0))) e39 (by rw [y12]; exact Nat.le_of_ble_eq_true rfl) (fun a13 y13 zz13 e6 hr => ?_)
  replace y13 := y13.trans y12; replace zz13 := zz13.trans zz12
  replace e2 := (hr 2 (by decide)).trans e2
  replace e4 := (hr 4 (by decide)).trans e4
  replace e39 := (hr 39 (by decide)).trans e39
  replace e38 := (hr 38 (by decide)).trans e38
  replace e5 := (hr 5 (by decide)).trans e5
  clear hr
  refine tail_nil (hK10 _ _ ?_)
  refine wp_seq_k fun K14 hK14 => ?_
  refine wp_seq_k fun K15 hK15 => ?_
  refine rg mixed y13 zz13 ?_
  refine .i (sp_move (hbs rfl e2)) ?_
  refine .i (sp_neq (hlc rfl) Has.cst) ?_
  refine .i (sp_move (hlc rfl)) ?_
  refine .e (t := 42) rfl (hlc rfl) (fun hg => sp_move (hbs rfl e4)) ?_
  refine .e (t := 42) rfl (hlc rfl) (fun hg => sp_neq ((hlc rfl).undE hg) Has.cst) ?_
  refine .i (sp_or (hlc rfl) ((hlc rfl).weak fun hq => hq)) ?_
  refine .i (sp_move (hlc rfl)) ?_
  refine .e (t := 46) rfl (hlc rfl) (fun hg => sp_move (hbs rfl e6)) ?_
  refine .e (t := 46) rfl (hlc rfl) (fun hg => sp_neq ((hlc rfl).undE hg) Has.cst) ?_
  refine .i (sp_or (hlc rfl) ((hlc rfl).weak fun hq => hq)) ?_
  refine .done ⟨by kernel_rfl, fun a16 g W16 y16 zz16 hk hg hV hR hP => ?_⟩
  obtain ⟨e49, -, -, -, -, -, -, -, -, -, -⟩ := hV
  replace e5 := (hR 5 rfl).trans e5
  replace e49 := e49.q
  replace own_bo38_11 := own_bo38_11.ext hk
  replace kw := kw.x hk
  clear hR hk hg hP
  refine tail_nil (hK15 _ _ ?_)
  refine wp_cond_false (e49.trans (congrArg Value.bool (by decide))) ?_
  refine wp_skip (hK14 _ _ ?_)
  refine wp_seq_k fun K17 hK17 => ?_
  refine wp_seq_k fun K18 hK18 => ?_
  have A_ar19 : Arr W16 w.heap.size 156 8 (SF w (blks none ++ (bo38_11 :: []))) (List.map Vo.d ([])) (.slice none 0 0) none := arr_nil _ _ _ _ _
  refine rg mixed y16 zz16 ?_
  refine .i (sp_assign Has.cst) ?_
  refine .done ⟨by kernel_rfl, fun a20 g W20 y20 zz20 hk hg hV hR hP => ?_⟩
  obtain ⟨e7, -⟩ := hV
  replace e5 := (hR 5 rfl).trans e5
  replace A_ar19 := A_ar19.ext hk
  have e7 : sl a20 7 = (.int .i64 (0)) := e7
  replace own_bo38_11 := own_bo38_11.ext hk
  replace kw := kw.x hk
  clear hR hk hg hP
  refine tail_nil (hK18 _ _ ?_)
  refine wp_block ?_
  refine wp_for (8) (fun k a W => ∃ (va1_21 : Value), ∃ (hd1_21 : Option Nat), a.tmps.size = 157 ∧ a.defers = [] ∧ Keeps All w W ∧ sl a 5 = (.pointer (some ⟨bo38_11, 0, none⟩)) ∧ sl a 7 = (.int .i64 ((k : Nat))) ∧ Own W bo38_11 [(.int .i64 (8)), va1_21] 104 ∧ Arr W w.heap.size 156 8 (SF w (blks hd1_21 ++ (bo38_11 :: []))) (List.map Vo.d (VL k)) va1_21 hd1_21 ∧ bo38_11 ∉ blks hd1_21) ⟨(.slice none 0 0), none, y20, zz20, kw, e5, (e7.trans (congrArg (Value.int .i64) (rfl))), own_bo38_11, A_ar19, nb_none⟩ ?_
  clear kw e5 e7 own_bo38_11 A_ar19
  rintro k a21 W21 hkk ⟨va1_21, hd1_21, y21, zz21, kw, e5, e7, own_bo38_11, A1_21, nb_bo38_11_ar19_21⟩
  refine wp_seq_k fun K22 hK22 => ?_
  refine wp_seq_k fun K23 hK23 => ?_
  refine rg mixed y21 zz21 ?_
  refine .i (sp_move (hbs rfl e7)) ?_
  refine .i (sp_lss (hlc rfl) Has.cst) ?_
  refine .done ⟨by kernel_rfl, fun a24 g W24 y24 zz24 hk hg hV hR hP => ?_⟩
  obtain ⟨e51, -, -⟩ := hV
  replace e5 := (hR 5 rfl).trans e5
  replace e7 := (hR 7 rfl).trans e7
  replace A1_21 := A1_21.ext hk
  replace e51 := e51.q
  replace own_bo38_11 := own_bo38_11.ext hk
  replace kw := kw.x hk
  clear hR hk hg hP
  refine tail_nil (hK23 _ _ ?_)
  refine wp_cond_split e51 (fun hc => ?_) (fun hc => ?_)
  ·
   have hlt : k < 8 := by have := of_decide_eq_true hc; omega
   refine wp_skip (hK22 _ _ ?_)
   refine wp_seq_k fun K25 hK25 => ?_
   refine wp_block ?_
   refine wp_seq_k fun K26 hK26 => ?_
   have hf8 : ((VL k).length : Int) < 8 := by rw [VL_len]; omega
   have hwR1 : wonR (8) (VL k) = Rc.zero := won_fewR hf8
   have hwS1 : wonS (8) (VL k) = ⟨#[]⟩ := won_fewS hf8
   have hwB1 : wonB (8) (VL k) = false := won_fewB hf8
   refine rg mixed y24 zz24 ?_
   refine .i (sp_move (hbs rfl e5)) ?_
   refine .op (φ := IsT3 (IsD (Fr W24) (Rc.d (Rc.zero))) (Is (.string (⟨#[]⟩))) (Is (.bool (false)))) (st_t3 (st_d sub_all) (st_is _) (st_is _)) (sp_call1 (φ1 := Is (.pointer (some ⟨bo38_11, 0, none⟩))) ent56 (hlc rfl) (fun g u1 W hk hgk h1 => by have h1 : u1 = _ := h1; subst u1; exact (Won_ok (8) (VL k) W _ _ _ (own_bo38_11.ext hk) (by decide) (okV_wt (VL_ok _)) (okV_hs (VL_ok _)) clnS_cln (arr_rdC (A1_21.ext hk) sf_cln)).mono (fun _ _ ⟨v, h1, h2, r1, h3, h4⟩ => ⟨v, h1, h2, r1, _, _, h3, by rw [← hwR1]; exact fresh_d hk hgk h4, congrArg Value.string hwS1, congrArg Value.bool hwB1⟩))) ?_
   refine .op (φ := IsT3 (IsD (Fr W24) (Rc.d (Rc.zero))) (Is (.string (⟨#[]⟩))) (Is (.bool (false)))) (st_t3 (st_d sub_all) (st_is _) (st_is _)) (sp_move (hlc rfl)) ?_
   refine .da (X := Fr W24) (e := Rc.d (Rc.zero)) (sp_ext30 (hlc rfl)) ?_
   refine .i (v := (.string (⟨#[]⟩))) (sp_ext31 (hlc rfl)) ?_
   refine .i (v := (.bool (false))) (sp_ext32 (hlc rfl)) ?_
   refine .alloc z87 ?_
   refine .done ⟨by kernel_rfl, fun a27 g W27 y27 zz27 hk hg hV hR hP => ?_⟩
   obtain ⟨⟨b8_27, e8, hb8, own_b8_27⟩, e59, e58, e57, -, -, -, -⟩ := hV
   have lo_b8_27 : w.heap.size ≤ b8_27 := Nat.le_trans kw.size (hg.lo _ _ hb8)
   have ne_bo38_11_b8_27 : bo38_11 ≠ b8_27 := Nat.ne_of_lt (Nat.lt_of_lt_of_le own_bo38_11.lt (hg.lo _ _ hb8))
   have own_b8_27 : Own W27 b8_27 [(.int .i64 (0)), (.slice none 0 0), (.int .u8 (0)), (.int .i64 (0)), (.string (⟨#[]⟩)), (.slice none 0 0), (.slice none 0 0)] 87 := own_b8_27
   replace e5 := (hR 5 rfl).trans e5
   replace e7 := (hR 7 rfl).trans e7
   have hMx : ∀ b ∈ (blks hd1_21 ++ (bo38_11 :: [])), b < W24.heap.size := (in_app A1_21.lt (in_cons own_bo38_11.lt in_nil))
   have nb_b8_27_ar19 : b8_27 ∉ blks hd1_21 := nb_lt A1_21.lt (hg.lo _ _ hb8)
   replace A1_21 : Arr W27 w.heap.size 156 8 (SF w (b8_27 :: (blks hd1_21 ++ (bo38_11 :: [])))) (List.map Vo.d (VL k)) va1_21 hd1_21 := arrF_more A1_21 hk [b8_27] (in_cons (hg.lo _ _ hb8) in_nil)
   obtain ⟨v57_27, ev⟩ : ∃ v, sl a27 57 = v := ⟨_, rfl⟩
   rw [ev] at e57
   have D_v57_27 : Rd W27 (SF w (b8_27 :: (blks hd1_21 ++ (bo38_11 :: [])))) (Rc.d (Rc.zero)) v57_27 := fr_end (M := (blks hd1_21 ++ (bo38_11 :: []))) e57 kw [b8_27] (in_cons ⟨_, hb8⟩ in_nil) hMx
   replace e57 := ev; clear ev
   obtain ⟨v57_27_1a, v57_27_1c, v57_27_5a, v57_27_5c, v57_27_6a, v57_27_6c, ev, hb_v57_27_4, D_v57_27_1, D_v57_27_5, D_v57_27_6⟩ := rdRc_out D_v57_27
   subst ev; clear D_v57_27
   have e58 : sl a27 58 = (.string (⟨#[]⟩)) := e58
   have e59 : sl a27 59 = (.bool (false)) := e59
   replace own_bo38_11 := own_bo38_11.ext hk
   replace kw := kw.x hk
   clear hR hk hg hP hb8
   refine tail_store (b := b8_27) (o := 0) (v := (.agg #[(.int .i64 (Rc.zero.ln)), (.slice v57_27_1a (Rc.zero.hs.length) v57_27_1c), (.int .u8 (Rc.zero.cu.k)), (.int .i64 (Rc.zero.cu.n)), (.string (Rc.zero.cu.t)), (.slice v57_27_5a (Rc.zero.cu.ns.length) v57_27_5c), (.slice v57_27_6a (Rc.zero.cu.xs.length) v57_27_6c)])) e8 e57 sz87 rfl own_b8_27 (lbr rfl) (all_cons rfl (all_cons rfl (all_cons rfl (all_cons rfl (all_cons rfl (all_cons rfl (all_cons rfl all_nil))))))) (fun W28 hs own_b8_27 => ?_)
   have own_b8_27 : Own W28 b8_27 [(.int .i64 (Rc.zero.ln)), (.slice v57_27_1a (Rc.zero.hs.length) v57_27_1c), (.int .u8 (Rc.zero.cu.k)), (.int .i64 (Rc.zero.cu.n)), (.string (Rc.zero.cu.t)), (.slice v57_27_5a (Rc.zero.cu.ns.length) v57_27_5c), (.slice v57_27_6a (Rc.zero.cu.xs.length) v57_27_6c)] 87 := own_b8_27
   replace own_bo38_11 := own_store own_bo38_11 hs ne_bo38_11_b8_27
   replace D_v57_27_1 := sf_store D_v57_27_1 hs (by simp)
   replace D_v57_27_5 := sf_store D_v57_27_5 hs (by simp)
   replace D_v57_27_6 := sf_store D_v57_27_6 hs (by simp)
   replace A1_21 := arrF_store A1_21 hs (by simp) nb_b8_27_ar19
   replace kw := keeps_store kw hs lo_b8_27
   clear hs
   refine tail_assign (v := (.string (⟨#[]⟩))) e58 (by rw [y27]; exact Nat.le_of_ble_eq_true rfl) (fun a29 y29 zz29 e9 hr => ?_)
   replace y29 := y29.trans y27; replace zz29 := zz29.trans zz27
   replace e5 := (hr 5 (by decide)).trans e5
   replace e7 := (hr 7 (by decide)).trans e7
   replace e8 := (hr 8 (by decide)).trans e8
   replace e57 := (hr 57 (by decide)).trans e57
   replace e58 := (hr 58 (by decide)).trans e58
   replace e59 := (hr 59 (by decide)).trans e59
   clear hr
   refine tail_assign (v := (.bool (false))) e59 (by rw [y29]; exact Nat.le_of_ble_eq_true rfl) (fun a30 y30 zz30 e10 hr => ?_)
   replace y30 := y30.trans y29; replace zz30 := zz30.trans zz29
   replace e5 := (hr 5 (by decide)).trans e5
   replace e7 := (hr 7 (by decide)).trans e7
   replace e8 := (hr 8 (by decide)).trans e8
   replace e57 := (hr 57 (by decide)).trans e57
   replace e58 := (hr 58 (by decide)).trans e58
   replace e59 := (hr 59 (by decide)).trans e59
   replace e9 := (hr 9 (by decide)).trans e9
   clear hr
   refine tail_nil (hK26 _ _ ?_)
   refine wp_seq_k fun K31 hK31 => ?_
   refine rg mixed y30 zz30 ?_
   refine .i (sp_move (hbs rfl e10)) ?_
   refine .i (sp_move (hlc rfl)) ?_
   refine .done ⟨by kernel_rfl, fun a32 g W32 y32 zz32 hk hg hV hR hP => ?_⟩
   obtain ⟨e61, -, -⟩ := hV
   replace e5 := (hR 5 rfl).trans e5
   replace e7 := (hR 7 rfl).trans e7
   replace A1_21 := A1_21.ext hk
   have e61 : sl a32 61 = (.bool (false)) := e61
   replace own_bo38_11 := own_bo38_11.ext hk
   replace own_b8_27 := own_b8_27.ext hk
   replace kw := kw.x hk
   clear hR hk hg hP
   refine tail_ung 1 61 false rfl 10 rfl (e61.trans (congrArg Value.bool rfl)) ?_
   refine tail_reg 9 (fun k => k ∉ (bo38_11 :: (blks hd1_21 ++ []))) (Ψ := fun W => Own W bo38_11 [(.int .i64 (8)), va1_21] 104 ∧ Arr W w.heap.size 156 8 (SF w (b8_27 :: (blks hd1_21 ++ (bo38_11 :: [])))) (List.map Vo.d (VL k)) va1_21 hd1_21) y32 zz32 stE_boxR ⟨own_bo38_11, A1_21⟩ rfl ?_
   refine .i (sp_move (hbs rfl e5)) ?_
   refine .i (sp_move (hbs rfl e7)) ?_
   refine .i (sp_add Has.cst (hlc rfl) (i64_in (by omega))) ?_
   refine .i (v := (.int .u8 ((97 : Int) + ((k : Nat) : Int)))) (sp_conv Try.underlying3 Try.underlying5 (hlc rfl) (u8_in (by omega))) ?_
   refine .op (φ := IsD (SF w (b8_27 :: (blks hd1_21 ++ (bo38_11 :: [])))) (bytesD ([(97 : Int) + ((k : Nat) : Int)]))) (st_d (sub_nvF (fun b hb => by first | exact hb | (simp only [List.mem_cons, List.mem_append, List.not_mem_nil, or_false] at hb ⊢; rcases hb with h | h <;> simp [h])))) (sp_bsl (ds := [D.int .u8 ((97 : Int) + ((k : Nat) : Int))]) Try.underlying25 sz5 z5 (lbr rfl) (lbr rfl) ⟨rfl, (hlc rfl).int, trivial⟩ rfl (by simp [width]) (fr_sf kw (in_cons own_b8_27.lt (in_app A1_21.lt (in_cons own_bo38_11.lt in_nil))))) ?_
   refine .i (v := (.string (ofBytes ([(97 : Int) + ((k : Nat) : Int)])))) (sp_b2s Try.underlying25 Try.underlying5 Try.underlying9 (hlc rfl)) ?_
   refine .i (sp_move (hbs rfl e7)) ?_
   refine .i (sp_add (hlc rfl) Has.cst (i64_in (by omega))) ?_
   refine .callL5 (φ1 := Is (.pointer (some ⟨bo38_11, 0, none⟩))) (φ2 := Is (.string (ofBytes ([(97 : Int) + ((k : Nat) : Int)])))) (φ3 := Is (.bool (false))) (φ4 := Is (.int .i64 (((k : Nat) : Int) + (1 : Int)))) (φ5 := Is (.int .i64 (0))) (φ := Is (.bool (true))) (Ψ' := fun W => AddV 104 156 W32 W w.heap.size (SF w (b8_27 :: (blks hd1_21 ++ (bo38_11 :: [])))) bo38_11 8 ((VL k) ++ [Vo.mk (oneR false) (ofBytes ([(97 : Int) + ((k : Nat) : Int)]))]) hd1_21) ent60 (hlc rfl) (hlc rfl) Has.cst (hlc rfl) Has.cst (st_is _) stE_addV (fun g u1 u2 u3 u4 u5 W hk hg h1 h2 h3 h4 h5 hP => by have h1 : u1 = _ := h1; subst u1; have h2 : u2 = _ := h2; subst u2; have h3 : u3 = _ := h3; subst u3; have h4 : u4 = _ := h4; subst u4; have h5 : u5 = _ := h5; subst u5; exact (adds_ok (8) (VL k) W _ _ _ _ bo38_11 hP.1 (row_inF hP.2 (fun b hb => by first | exact hb | (simp only [List.mem_cons, List.mem_append, List.not_mem_nil, or_false] at hb ⊢; rcases hb with h | h <;> simp [h]))) nb_bo38_11_ar19_21 (Nat.le_trans kw.size hk.size) sf_cln (by decide) (okV_wt (VL_ok _)) (ofBytes ([(97 : Int) + ((k : Nat) : Int)])) ((by rw [ofB1 (k := k) (by simp)]; exact VLn_size k)) false (by rw [ofB1 (k := k) (by simp)]; exact VL_role (by omega)) (by rw [ofB1 (k := k) (by simp)]; exact VL_new (by omega)) (by rw [VL_len]; omega) (((k : Nat) : Int) + (1 : Int)) (by rw [ofB1 (k := k) (by simp), ← VL_succ, VL_cnt]; simp)).mono fun e W' ⟨u, h1, h2, h3, h4⟩ => ⟨u, h1, h2, h3, W, hk.size, h4⟩) ?_
   refine .done ⟨by kernel_rfl, fun a33 g W33 y33 zz33 hk hg hV hR hP => ?_⟩
   refine tail_nil ?_
   show runTail _ _ _ _ _ _
   obtain ⟨e70, -, -, -, -, -, -, -, -, -⟩ := hV
   replace e5 := (hR 5 rfl).trans e5
   replace e7 := (hR 7 rfl).trans e7
   replace e61 := (hR 61 rfl).trans e61
   have hMlt : ∀ b ∈ (b8_27 :: (blks hd1_21 ++ (bo38_11 :: []))), b < W32.heap.size := (in_cons own_b8_27.lt (in_app A1_21.lt (in_cons own_bo38_11.lt in_nil)))
   obtain ⟨W1, hW1, v_33, hd_33, own_bo38_11, A_33, nb_33, hf_33⟩ := hP
   replace hf_33 : ∀ b ∈ blks hd_33, b ∈ blks hd1_21 ∨ W32.heap.size ≤ b := fun b hb => (hf_33 b hb).imp id (Nat.le_trans hW1)
   obtain ⟨v_33a, v_33n, v_33c, ev⟩ := arr_sl A_33; subst ev
   replace A_33 : Arr W33 w.heap.size 156 8 (SF w (b8_27 :: (blks hd_33 ++ (bo38_11 :: [])))) (List.map Vo.d ((VL k) ++ [Vo.mk (oneR false) (ofBytes ([(97 : Int) + ((k : Nat) : Int)]))])) (.slice v_33a v_33n v_33c) hd_33 := row_outF A_33 (Nat.le_trans kw.size hW1) (fun b hb => Nat.lt_of_lt_of_le (hMlt b hb) hW1) (fun b hb => by simp only [List.mem_cons, List.mem_append, List.not_mem_nil, or_false] at hb ⊢; rcases hb with h | h | h <;> simp [h])
   have e70 : sl a33 70 = (.bool (true)) := e70
   have nb_b8_27_33 : b8_27 ∉ blks hd_33 := nb_new nb_b8_27_ar19 own_b8_27.lt hf_33
   replace own_b8_27 := own_appL own_b8_27 hk (nin_boxA ne_bo38_11_b8_27.symm nb_b8_27_ar19)
   replace own_bo38_11 : Own W33 bo38_11 [(.int .i64 (8)), (.slice v_33a v_33n v_33c)] 104 := own_bo38_11
   replace kw := keeps_L kw hk (in_cons (.inl lo_bo38_11) (in_app (fun b hb => .inl (A1_21.ge b hb)) in_nil))
   clear hR hk hg hMlt hW1 hf_33 A1_21
   refine tail_reg 2 All y33 zz33 st_tr trivial rfl ?_
   refine .i (sp_not (hbs rfl e70)) ?_
   refine .i (sp_or (hbs rfl e61) ((hlc rfl).toU)) ?_
   refine .done ⟨by kernel_rfl, fun a34 g W34 y34 zz34 hk hg hV hR hP => ?_⟩
   refine tail_nil ?_
   show runTail _ _ _ _ _ _
   obtain ⟨e72, -, -⟩ := hV
   replace e5 := (hR 5 rfl).trans e5
   replace e7 := (hR 7 rfl).trans e7
   replace A_33 := A_33.ext hk
   have e72 : sl a34 72 = (.bool (false || (!true))) := e72
   replace own_bo38_11 := own_bo38_11.ext hk
   replace own_b8_27 := own_b8_27.ext hk
   replace kw := kw.x hk
   clear hR hk hg hP
   refine tail_nil (hK31 _ _ ?_)
   refine wp_cond_false (e72.trans (congrArg Value.bool (by decide))) ?_
   refine wp_skip (hK25 _ _ ?_)
   refine rg mixed y34 zz34 ?_
   refine .i (sp_move (hbs rfl e7)) ?_
   refine .i (sp_add (hlc rfl) Has.cst (i64_in (by omega))) ?_
   refine .i (sp_assign (hlc rfl)) ?_
   refine .done ⟨by kernel_rfl, fun a35 g W35 y35 zz35 hk hg hV hR hP => ?_⟩
   obtain ⟨e7, -, -, -⟩ := hV
   replace e5 := (hR 5 rfl).trans e5
   replace A_33 := A_33.ext hk
   replace e7 := e7.q
   replace own_bo38_11 := own_bo38_11.ext hk
   replace own_b8_27 := own_b8_27.ext hk
   replace kw := kw.x hk
   clear hR hk hg hP
   rw [show (VL k) ++ [Vo.mk (oneR false) (ofBytes ([(97 : Int) + ((k : Nat) : Int)]))] = VL (k + 1) by (rw [ofB1 (k := k) (by simp), ← VL_succ])] at A_33
   exact tail_nil ⟨hlt, (.slice v_33a v_33n v_33c), hd_33, y35, zz35, kw, e5, (e7.trans (congrArg (Value.int .i64) (by simp))), own_bo38_11, (arrF_less A_33 (ls_skip (ls_keepA (ls_keep ls_nil)))), nb_33⟩
  ·
   have hge : k = 8 := by have := of_decide_eq_false hc; omega
   refine wp_exit (hK17 _ _ ?_)
   refine wp_seq_k fun K36 hK36 => ?_
   rw [hge] at A1_21
   have hwR8 : wonR (8) (VL 8) = oneR false := by kernel_rfl
   have hwS8 : wonS (8) (VL 8) = ⟨#[104]⟩ := by kernel_rfl
   have hwB8 : wonB (8) (VL 8) = true := by kernel_rfl
   refine rg mixed y24 zz24 ?_
   refine .i (sp_move (hbs rfl e5)) ?_
   refine .op (φ := IsT3 (IsD (Fr W24) (Rc.d (oneR false))) (Is (.string (⟨#[104]⟩))) (Is (.bool (true)))) (st_t3 (st_d sub_all) (st_is _) (st_is _)) (sp_call1 (φ1 := Is (.pointer (some ⟨bo38_11, 0, none⟩))) ent56 (hlc rfl) (fun g u1 W hk hgk h1 => by have h1 : u1 = _ := h1; subst u1; exact (Won_ok (8) (VL 8) W _ _ _ (own_bo38_11.ext hk) (by decide) (okV_wt (VL_ok _)) (okV_hs (VL_ok _)) clnS_cln (arr_rdC (A1_21.ext hk) sf_cln)).mono (fun _ _ ⟨v, h1, h2, r1, h3, h4⟩ => ⟨v, h1, h2, r1, _, _, h3, by rw [← hwR8]; exact fresh_d hk hgk h4, congrArg Value.string hwS8, congrArg Value.bool hwB8⟩))) ?_
   refine .op (φ := IsT3 (IsD (Fr W24) (Rc.d (oneR false))) (Is (.string (⟨#[104]⟩))) (Is (.bool (true)))) (st_t3 (st_d sub_all) (st_is _) (st_is _)) (sp_move (hlc rfl)) ?_
   refine .da (X := Fr W24) (e := Rc.d (oneR false)) (sp_ext30 (hlc rfl)) ?_
   refine .i (v := (.string (⟨#[104]⟩))) (sp_ext31 (hlc rfl)) ?_
   refine .i (v := (.bool (true))) (sp_ext32 (hlc rfl)) ?_
   refine .alloc z87 ?_
   refine .done ⟨by kernel_rfl, fun a37 g W37 y37 zz37 hk hg hV hR hP => ?_⟩
   obtain ⟨⟨b11_37, e11, hb11, own_b11_37⟩, e78, e77, e76, -, -, -, -⟩ := hV
   have lo_b11_37 : w.heap.size ≤ b11_37 := Nat.le_trans kw.size (hg.lo _ _ hb11)
   have ne_bo38_11_b11_37 : bo38_11 ≠ b11_37 := Nat.ne_of_lt (Nat.lt_of_lt_of_le own_bo38_11.lt (hg.lo _ _ hb11))
   have own_b11_37 : Own W37 b11_37 [(.int .i64 (0)), (.slice none 0 0), (.int .u8 (0)), (.int .i64 (0)), (.string (⟨#[]⟩)), (.slice none 0 0), (.slice none 0 0)] 87 := own_b11_37
   replace e5 := (hR 5 rfl).trans e5
   have hMx : ∀ b ∈ (blks hd1_21 ++ (bo38_11 :: [])), b < W24.heap.size := (in_app A1_21.lt (in_cons own_bo38_11.lt in_nil))
   have nb_b11_37_ar19 : b11_37 ∉ blks hd1_21 := nb_lt A1_21.lt (hg.lo _ _ hb11)
   replace A1_21 : Arr W37 w.heap.size 156 8 (SF w (b11_37 :: (blks hd1_21 ++ (bo38_11 :: [])))) (List.map Vo.d (VL 8)) va1_21 hd1_21 := arrF_more A1_21 hk [b11_37] (in_cons (hg.lo _ _ hb11) in_nil)
   obtain ⟨v76_37, ev⟩ : ∃ v, sl a37 76 = v := ⟨_, rfl⟩
   rw [ev] at e76
   have D_v76_37 : Rd W37 (SF w (b11_37 :: (blks hd1_21 ++ (bo38_11 :: [])))) (Rc.d (oneR false)) v76_37 := fr_end (M := (blks hd1_21 ++ (bo38_11 :: []))) e76 kw [b11_37] (in_cons ⟨_, hb11⟩ in_nil) hMx
   replace e76 := ev; clear ev
   obtain ⟨v76_37_1a, v76_37_1c, v76_37_5a, v76_37_5c, v76_37_6a, v76_37_6c, ev, hb_v76_37_4, D_v76_37_1, D_v76_37_5, D_v76_37_6⟩ := rdRc_out D_v76_37
   subst ev; clear D_v76_37
   have e77 : sl a37 77 = (.string (⟨#[104]⟩)) := e77
   have e78 : sl a37 78 = (.bool (true)) := e78
   replace own_bo38_11 := own_bo38_11.ext hk
   replace kw := kw.x hk
   clear hR hk hg hP hb11
   refine tail_store (b := b11_37) (o := 0) (v := (.agg #[(.int .i64 ((oneR false).ln)), (.slice v76_37_1a (((oneR false).hs).length) v76_37_1c), (.int .u8 ((oneR false).cu.k)), (.int .i64 ((oneR false).cu.n)), (.string ((oneR false).cu.t)), (.slice v76_37_5a (((oneR false).cu.ns).length) v76_37_5c), (.slice v76_37_6a (((oneR false).cu.xs).length) v76_37_6c)])) e11 e76 sz87 rfl own_b11_37 (lbr rfl) (all_cons rfl (all_cons rfl (all_cons rfl (all_cons rfl (all_cons rfl (all_cons rfl (all_cons rfl all_nil))))))) (fun W38 hs own_b11_37 => ?_)
   have own_b11_37 : Own W38 b11_37 [(.int .i64 ((oneR false).ln)), (.slice v76_37_1a (((oneR false).hs).length) v76_37_1c), (.int .u8 ((oneR false).cu.k)), (.int .i64 ((oneR false).cu.n)), (.string ((oneR false).cu.t)), (.slice v76_37_5a (((oneR false).cu.ns).length) v76_37_5c), (.slice v76_37_6a (((oneR false).cu.xs).length) v76_37_6c)] 87 := own_b11_37
   replace own_bo38_11 := own_store own_bo38_11 hs ne_bo38_11_b11_37
   replace D_v76_37_1 := sf_store D_v76_37_1 hs (by simp)
   replace D_v76_37_5 := sf_store D_v76_37_5 hs (by simp)
   replace D_v76_37_6 := sf_store D_v76_37_6 hs (by simp)
   replace A1_21 := arrF_store A1_21 hs (by simp) nb_b11_37_ar19
   replace kw := keeps_store kw hs lo_b11_37
   clear hs
   refine tail_assign (v := (.string (⟨#[104]⟩))) e77 (by rw [y37]; exact Nat.le_of_ble_eq_true rfl) (fun a39 y39 zz39 e12 hr => ?_)
   replace y39 := y39.trans y37; replace zz39 := zz39.trans zz37
   replace e5 := (hr 5 (by decide)).trans e5
   replace e11 := (hr 11 (by decide)).trans e11
   replace e76 := (hr 76 (by decide)).trans e76
   replace e77 := (hr 77 (by decide)).trans e77
   replace e78 := (hr 78 (by decide)).trans e78
   clear hr
   refine tail_assign (v := (.bool (true))) e78 (by rw [y39]; exact Nat.le_of_ble_eq_true rfl) (fun a40 y40 zz40 e13 hr => ?_)
   replace y40 := y40.trans y39; replace zz40 := zz40.trans zz39
   replace e5 := (hr 5 (by decide)).trans e5
   replace e11 := (hr 11 (by decide)).trans e11
   replace e76 := (hr 76 (by decide)).trans e76
   replace e77 := (hr 77 (by decide)).trans e77
   replace e78 := (hr 78 (by decide)).trans e78
   replace e12 := (hr 12 (by decide)).trans e12
   clear hr
   refine tail_nil (hK36 _ _ ?_)
   refine wp_seq_k fun K41 hK41 => ?_
   refine wp_seq_k fun K42 hK42 => ?_
   refine rg mixed y40 zz40 ?_
   refine .i (sp_move (hbs rfl e13)) ?_
   refine .i (sp_not (hlc rfl)) ?_
   refine .i (sp_move (hlc rfl)) ?_
   refine .e (t := 81) rfl (hlc rfl) (fun hg => sp_move (hbs rfl e12)) ?_
   refine .e (t := 81) rfl (hlc rfl) (fun hg => sp_sNeq ((hlc rfl).undE hg) Has.cst) ?_
   refine .i (sp_or (hlc rfl) ((hlc rfl).weak fun hq => hq)) ?_
   refine .i (sp_move (hlc rfl)) ?_
   refine .e (t := 85) rfl (hlc rfl) (fun hg => sp_move (hbs rfl e5)) ?_
   refine .e (t := 85) (v := (.bool (true))) rfl (hlc rfl) (fun hg => sp_call5 (φ1 := Is (.pointer (some ⟨bo38_11, 0, none⟩))) (φ2 := Is (.string (⟨#[105]⟩))) (φ3 := Is (.bool (false))) (φ4 := Is (.int .i64 (0))) (φ5 := Is (.int .i64 (5))) ent60 ((hlc rfl).undE hg) Has.cst Has.cst Has.cst Has.cst (fun g u1 u2 u3 u4 u5 W hk hgk h1 h2 h3 h4 h5 => by have h1 : u1 = _ := h1; subst u1; have h2 : u2 = _ := h2; subst u2; have h3 : u3 = _ := h3; subst u3; have h4 : u4 = _ := h4; subst u4; have h5 : u5 = _ := h5; subst u5; exact addsNo_ok _ ⟨#[105]⟩ false 5 W (fun W2 v k hv => AddNo5_ok (8) (VL 8) W2 ClnS _ _ (own_bo38_11.ext (hk.trans k)) (by decide) ⟨#[105]⟩ (by decide) (oneR false) (oneR_wt _) (oneR_hs _) (by kernel_rfl) (oneR_may _) (by have := VL_new (k := 8) (by omega); exact this) (by rw [VL_len]; omega) clnS_cln (arr_rdC (A1_21.ext (hk.trans k)) sf_cln) _ (rd_cln hv fun b o h => h.2)))) ?_
   refine .e (t := 85) rfl (hlc rfl) (fun hg => sp_not ((hlc rfl).undE hg)) ?_
   refine .i (sp_or (hlc rfl) ((hlc rfl).weak fun hq => hq)) ?_
   refine .i (sp_move (hlc rfl)) ?_
   refine .e (t := 90) rfl (hlc rfl) (fun hg => sp_move (hbs rfl e5)) ?_
   refine .e (t := 90) (v := (.bool (true))) rfl (hlc rfl) (fun hg => sp_call5 (φ1 := Is (.pointer (some ⟨bo38_11, 0, none⟩))) (φ2 := Is (.string (⟨#[97]⟩))) (φ3 := Is (.bool (false))) (φ4 := Is (.int .i64 (0))) (φ5 := Is (.int .i64 (7))) ent60 ((hlc rfl).undE hg) Has.cst Has.cst Has.cst Has.cst (fun g u1 u2 u3 u4 u5 W hk hgk h1 h2 h3 h4 h5 => by have h1 : u1 = _ := h1; subst u1; have h2 : u2 = _ := h2; subst u2; have h3 : u3 = _ := h3; subst u3; have h4 : u4 = _ := h4; subst u4; have h5 : u5 = _ := h5; subst u5; exact addsNo_ok _ ⟨#[97]⟩ false 7 W (fun W2 v k hv => AddNo7_ok (8) (VL 8) W2 ClnS _ _ (own_bo38_11.ext (hk.trans k)) (by decide) ⟨#[97]⟩ (by decide) (oneR false) (oneR_wt _) (oneR_hs _) (by kernel_rfl) (oneR_may _) ⟨Vo.mk (oneR false) (VLn 0), List.mem_map.2 ⟨0, by simp, rfl⟩, rfl⟩ clnS_cln (arr_rdC (A1_21.ext (hk.trans k)) sf_cln) _ (rd_cln hv fun b o h => h.2)))) ?_
   refine .e (t := 90) rfl (hlc rfl) (fun hg => sp_not ((hlc rfl).undE hg)) ?_
   refine .i (sp_or (hlc rfl) ((hlc rfl).weak fun hq => hq)) ?_
   refine .i (sp_move (hlc rfl)) ?_
   refine .e (t := 95) rfl (hlc rfl) (fun hg => sp_move (hbs rfl e5)) ?_
   refine .e (t := 95) (v := (.bool (true))) rfl (hlc rfl) (fun hg => sp_call5 (φ1 := Is (.pointer (some ⟨bo38_11, 0, none⟩))) (φ2 := Is (.string (⟨#[]⟩))) (φ3 := Is (.bool (false))) (φ4 := Is (.int .i64 (0))) (φ5 := Is (.int .i64 (3))) ent60 ((hlc rfl).undE hg) Has.cst Has.cst Has.cst Has.cst (fun g u1 u2 u3 u4 u5 W hk hgk h1 h2 h3 h4 h5 => by have h1 : u1 = _ := h1; subst u1; have h2 : u2 = _ := h2; subst u2; have h3 : u3 = _ := h3; subst u3; have h4 : u4 = _ := h4; subst u4; have h5 : u5 = _ := h5; subst u5; exact addsNo_ok _ ⟨#[]⟩ false 3 W (fun W2 v k hv => AddNo3_ok (8) (VL 8) W2 ClnS _ _ (own_bo38_11.ext (hk.trans k)) (by decide) ⟨#[]⟩ (by decide) (oneR false) (Nat.le_of_ble_eq_true (by kernel_rfl)) (Nat.le_of_ble_eq_true (by kernel_rfl)) (by kernel_rfl) clnS_cln (arr_rdC (A1_21.ext (hk.trans k)) sf_cln) _ (rd_cln hv fun b o h => h.2)))) ?_
   refine .e (t := 95) rfl (hlc rfl) (fun hg => sp_not ((hlc rfl).undE hg)) ?_
   refine .i (sp_or (hlc rfl) ((hlc rfl).weak fun hq => hq)) ?_
   refine .done ⟨by kernel_rfl, fun a43 g W43 y43 zz43 hk hg hV hR hP => ?_⟩
   obtain ⟨e99, -, -, -, -, -, -, -, -, -, -, -, -, -, -, -, -, -, -, -, -, -⟩ := hV
   replace e5 := (hR 5 rfl).trans e5
   replace A1_21 := A1_21.ext hk
   replace e99 := e99.q
   replace own_bo38_11 := own_bo38_11.ext hk
   replace own_b11_37 := own_b11_37.ext hk
   replace kw := kw.x hk
   clear hR hk hg hP
   refine tail_nil (hK42 _ _ ?_)
   refine wp_cond_split e99 (fun hc => ?_) (fun hc => ?_)
   ·
    exfalso
    simp at hc
   ·
    refine wp_skip (hK41 _ _ ?_)
    refine wp_seq_k fun K44 hK44 => ?_
    refine rg mixed y43 zz43 ?_
    refine .i (sp_move (hbs rfl e5)) ?_
    refine .i (v := (.agg #[(.int .i64 (1)), (.slice none 0 0), (.int .u8 (0)), (.int .i64 (0)), (.string (⟨#[]⟩)), (.slice none 0 0), (.slice none 0 0)])) (sp_build (vs := [(0, (.int .i64 (1)))]) Try.underlying87 z87 (pl87 Try.underlying87) ⟨rfl, Has.cst, trivial⟩ rfl) ?_
    refine .i (v := (.tuple #[(.int .i64 (0)), (.int .i64 (3))])) (sp_call3 (φ1 := Is (.pointer (some ⟨bo38_11, 0, none⟩))) (φ2 := Is (.string (⟨#[97]⟩))) (φ3 := IsD (SF w (b11_37 :: (blks hd1_21 ++ (bo38_11 :: [])))) (Rc.d (Rc.mk (1) ([]) (V.mk (0) (0) (⟨#[]⟩) ([]) ([]))))) ent55 (hlc rfl) Has.cst ((hlc rfl).dat (rdRc_mk (rd_nil _) (rdV_mk (lbr rfl) (rd_nil _) (rd_nil _) : Rd W43 (SF w (b11_37 :: (blks hd1_21 ++ (bo38_11 :: [])))) (V.d (V.mk (0) (0) (⟨#[]⟩) ([]) ([]))) _) : Rd W43 (SF w (b11_37 :: (blks hd1_21 ++ (bo38_11 :: [])))) (Rc.d (Rc.mk (1) ([]) (V.mk (0) (0) (⟨#[]⟩) ([]) ([])))) _) sub_all) (fun g u1 u2 u3 W hk hgk h1 h2 h3 => by have h1 : u1 = _ := h1; subst u1; have h2 : u2 = _ := h2; subst u2; exact AddNo3_ok (8) (VL 8) W ClnS _ _ (own_bo38_11.ext hk) (by decide) ⟨#[97]⟩ (by decide) (Rc.mk (1) ([]) (V.mk (0) (0) (⟨#[]⟩) ([]) ([]))) (Nat.le_of_ble_eq_true (by kernel_rfl)) (Nat.le_of_ble_eq_true (by kernel_rfl)) (by kernel_rfl) clnS_cln (arr_rdC (A1_21.ext hk) sf_cln) _ (rd_cln h3 (fun b o h => h.1.2.1)))) ?_
    refine .i (sp_move (hlc rfl)) ?_
    refine .i (v := (.int .i64 (0))) (sp_extT (hlc rfl) rfl) ?_
    refine .i (v := (.int .i64 (3))) (sp_extT (hlc rfl) rfl) ?_
    refine .i (sp_assign (hlc rfl)) ?_
    refine .i (sp_assign (hlc rfl)) ?_
    refine .done ⟨by kernel_rfl, fun a45 g W45 y45 zz45 hk hg hV hR hP => ?_⟩
    obtain ⟨e15, -, -, -, -, -, -, -, -⟩ := hV
    replace A1_21 := A1_21.ext hk
    have e15 : sl a45 15 = (.int .i64 (3)) := e15
    replace own_bo38_11 := own_bo38_11.ext hk
    replace own_b11_37 := own_b11_37.ext hk
    replace kw := kw.x hk
    clear hR hk hg hP
    refine tail_nil (hK44 _ _ ?_)
    refine wp_seq_k fun K46 hK46 => ?_
    refine rg mixed y45 zz45 ?_
    refine .alloc z104 ?_
    refine .done ⟨by kernel_rfl, fun a47 g W47 y47 zz47 hk hg hV hR hP => ?_⟩
    obtain ⟨⟨b16_47, e16, hb16, own_b16_47⟩, -⟩ := hV
    have lo_b16_47 : w.heap.size ≤ b16_47 := Nat.le_trans kw.size (hg.lo _ _ hb16)
    have ne_bo38_11_b16_47 : bo38_11 ≠ b16_47 := Nat.ne_of_lt (Nat.lt_of_lt_of_le own_bo38_11.lt (hg.lo _ _ hb16))
    have ne_b11_37_b16_47 : b11_37 ≠ b16_47 := Nat.ne_of_lt (Nat.lt_of_lt_of_le own_b11_37.lt (hg.lo _ _ hb16))
    have own_b16_47 : Own W47 b16_47 [(.int .i64 (0)), (.slice none 0 0)] 104 := own_b16_47
    replace e15 := (hR 15 rfl).trans e15
    have nb_b16_47_ar19 : b16_47 ∉ blks hd1_21 := nb_lt A1_21.lt (hg.lo _ _ hb16)
    replace A1_21 : Arr W47 w.heap.size 156 8 (SF w (b16_47 :: (b11_37 :: (blks hd1_21 ++ (bo38_11 :: []))))) (List.map Vo.d (VL 8)) va1_21 hd1_21 := arrF_more A1_21 hk [b16_47] (in_cons (hg.lo _ _ hb16) in_nil)
    replace own_bo38_11 := own_bo38_11.ext hk
    replace own_b11_37 := own_b11_37.ext hk
    replace kw := kw.x hk
    clear hR hk hg hP hb16
    refine tail_nil (hK46 _ _ ?_)
    refine wp_seq_k fun K48 hK48 => ?_
    refine rg mixed y47 zz47 ?_
    refine .i (sp_assign Has.cst) ?_
    refine .done ⟨by kernel_rfl, fun a49 g W49 y49 zz49 hk hg hV hR hP => ?_⟩
    obtain ⟨e17, -⟩ := hV
    replace e15 := (hR 15 rfl).trans e15
    replace e16 := (hR 16 rfl).trans e16
    replace A1_21 := A1_21.ext hk
    have e17 : sl a49 17 = (.pointer none) := e17
    replace own_bo38_11 := own_bo38_11.ext hk
    replace own_b11_37 := own_b11_37.ext hk
    replace own_b16_47 := own_b16_47.ext hk
    replace kw := kw.x hk
    clear hR hk hg hP
    refine tail_nil (hK48 _ _ ?_)
    refine wp_seq_k fun K50 hK50 => ?_
    refine rg mixed y49 zz49 ?_
    refine .op (φ := IsT3 (IsD (Fr W49) (Rc.d (Rc.zero))) (Is (.string (⟨#[]⟩))) (Is (.bool (false)))) (st_t3 (st_d sub_all) (st_is _) (st_is _)) (sp_call1 (φ1 := Is (.pointer (some ⟨b16_47, 0, none⟩))) ent56 (hbs rfl e16) (fun g u1 W hk hgk h1 => by have h1 : u1 = _ := h1; subst u1; exact (WonZ_ok W _ _ (own_b16_47.ext hk)).mono (fun _ _ ⟨v, h1, h2, r1, h3, h4⟩ => ⟨v, h1, h2, r1, _, _, h3, fresh_d hk hgk h4, rfl, rfl⟩))) ?_
    refine .op (φ := IsT3 (IsD (Fr W49) (Rc.d (Rc.zero))) (Is (.string (⟨#[]⟩))) (Is (.bool (false)))) (st_t3 (st_d sub_all) (st_is _) (st_is _)) (sp_move (hlc rfl)) ?_
    refine .da (X := Fr W49) (e := Rc.d (Rc.zero)) (sp_ext30 (hlc rfl)) ?_
    refine .i (v := (.string (⟨#[]⟩))) (sp_ext31 (hlc rfl)) ?_
    refine .i (v := (.bool (false))) (sp_ext32 (hlc rfl)) ?_
    refine .alloc z87 ?_
    refine .done ⟨by kernel_rfl, fun a51 g W51 y51 zz51 hk hg hV hR hP => ?_⟩
    obtain ⟨⟨b18_51, e18, hb18, own_b18_51⟩, e110, e109, e108, -, -, -⟩ := hV
    have lo_b18_51 : w.heap.size ≤ b18_51 := Nat.le_trans kw.size (hg.lo _ _ hb18)
    have ne_bo38_11_b18_51 : bo38_11 ≠ b18_51 := Nat.ne_of_lt (Nat.lt_of_lt_of_le own_bo38_11.lt (hg.lo _ _ hb18))
    have ne_b11_37_b18_51 : b11_37 ≠ b18_51 := Nat.ne_of_lt (Nat.lt_of_lt_of_le own_b11_37.lt (hg.lo _ _ hb18))
    have ne_b16_47_b18_51 : b16_47 ≠ b18_51 := Nat.ne_of_lt (Nat.lt_of_lt_of_le own_b16_47.lt (hg.lo _ _ hb18))
    have own_b18_51 : Own W51 b18_51 [(.int .i64 (0)), (.slice none 0 0), (.int .u8 (0)), (.int .i64 (0)), (.string (⟨#[]⟩)), (.slice none 0 0), (.slice none 0 0)] 87 := own_b18_51
    replace e15 := (hR 15 rfl).trans e15
    replace e16 := (hR 16 rfl).trans e16
    replace e17 := (hR 17 rfl).trans e17
    have hMx : ∀ b ∈ (b16_47 :: (b11_37 :: (blks hd1_21 ++ (bo38_11 :: [])))), b < W49.heap.size := (in_cons own_b16_47.lt (in_cons own_b11_37.lt (in_app A1_21.lt (in_cons own_bo38_11.lt in_nil))))
    have nb_b18_51_ar19 : b18_51 ∉ blks hd1_21 := nb_lt A1_21.lt (hg.lo _ _ hb18)
    replace A1_21 : Arr W51 w.heap.size 156 8 (SF w (b18_51 :: (b16_47 :: (b11_37 :: (blks hd1_21 ++ (bo38_11 :: [])))))) (List.map Vo.d (VL 8)) va1_21 hd1_21 := arrF_more A1_21 hk [b18_51] (in_cons (hg.lo _ _ hb18) in_nil)
    obtain ⟨v108_51, ev⟩ : ∃ v, sl a51 108 = v := ⟨_, rfl⟩
    rw [ev] at e108
    have D_v108_51 : Rd W51 (SF w (b18_51 :: (b16_47 :: (b11_37 :: (blks hd1_21 ++ (bo38_11 :: [])))))) (Rc.d (Rc.zero)) v108_51 := fr_end (M := (b16_47 :: (b11_37 :: (blks hd1_21 ++ (bo38_11 :: []))))) e108 kw [b18_51] (in_cons ⟨_, hb18⟩ in_nil) hMx
    replace e108 := ev; clear ev
    obtain ⟨v108_51_1a, v108_51_1c, v108_51_5a, v108_51_5c, v108_51_6a, v108_51_6c, ev, hb_v108_51_4, D_v108_51_1, D_v108_51_5, D_v108_51_6⟩ := rdRc_out D_v108_51
    subst ev; clear D_v108_51
    have e109 : sl a51 109 = (.string (⟨#[]⟩)) := e109
    have e110 : sl a51 110 = (.bool (false)) := e110
    replace own_bo38_11 := own_bo38_11.ext hk
    replace own_b11_37 := own_b11_37.ext hk
    replace own_b16_47 := own_b16_47.ext hk
    replace kw := kw.x hk
    clear hR hk hg hP hb18
    refine tail_store (b := b18_51) (o := 0) (v := (.agg #[(.int .i64 (Rc.zero.ln)), (.slice v108_51_1a (Rc.zero.hs.length) v108_51_1c), (.int .u8 (Rc.zero.cu.k)), (.int .i64 (Rc.zero.cu.n)), (.string (Rc.zero.cu.t)), (.slice v108_51_5a (Rc.zero.cu.ns.length) v108_51_5c), (.slice v108_51_6a (Rc.zero.cu.xs.length) v108_51_6c)])) e18 e108 sz87 rfl own_b18_51 (lbr rfl) (all_cons rfl (all_cons rfl (all_cons rfl (all_cons rfl (all_cons rfl (all_cons rfl (all_cons rfl all_nil))))))) (fun W52 hs own_b18_51 => ?_)
    have own_b18_51 : Own W52 b18_51 [(.int .i64 (Rc.zero.ln)), (.slice v108_51_1a (Rc.zero.hs.length) v108_51_1c), (.int .u8 (Rc.zero.cu.k)), (.int .i64 (Rc.zero.cu.n)), (.string (Rc.zero.cu.t)), (.slice v108_51_5a (Rc.zero.cu.ns.length) v108_51_5c), (.slice v108_51_6a (Rc.zero.cu.xs.length) v108_51_6c)] 87 := own_b18_51
    replace own_bo38_11 := own_store own_bo38_11 hs ne_bo38_11_b18_51
    replace own_b11_37 := own_store own_b11_37 hs ne_b11_37_b18_51
    replace own_b16_47 := own_store own_b16_47 hs ne_b16_47_b18_51
    replace D_v108_51_1 := sf_store D_v108_51_1 hs (by simp)
    replace D_v108_51_5 := sf_store D_v108_51_5 hs (by simp)
    replace D_v108_51_6 := sf_store D_v108_51_6 hs (by simp)
    replace A1_21 := arrF_store A1_21 hs (by simp) nb_b18_51_ar19
    replace kw := keeps_store kw hs lo_b18_51
    clear hs
    refine tail_assign (v := (.string (⟨#[]⟩))) e109 (by rw [y51]; exact Nat.le_of_ble_eq_true rfl) (fun a53 y53 zz53 e19 hr => ?_)
    replace y53 := y53.trans y51; replace zz53 := zz53.trans zz51
    replace e15 := (hr 15 (by decide)).trans e15
    replace e16 := (hr 16 (by decide)).trans e16
    replace e17 := (hr 17 (by decide)).trans e17
    replace e18 := (hr 18 (by decide)).trans e18
    replace e108 := (hr 108 (by decide)).trans e108
    replace e109 := (hr 109 (by decide)).trans e109
    replace e110 := (hr 110 (by decide)).trans e110
    clear hr
    refine tail_assign (v := (.bool (false))) e110 (by rw [y53]; exact Nat.le_of_ble_eq_true rfl) (fun a54 y54 zz54 e20 hr => ?_)
    replace y54 := y54.trans y53; replace zz54 := zz54.trans zz53
    replace e15 := (hr 15 (by decide)).trans e15
    replace e16 := (hr 16 (by decide)).trans e16
    replace e17 := (hr 17 (by decide)).trans e17
    replace e18 := (hr 18 (by decide)).trans e18
    replace e108 := (hr 108 (by decide)).trans e108
    replace e109 := (hr 109 (by decide)).trans e109
    replace e110 := (hr 110 (by decide)).trans e110
    replace e19 := (hr 19 (by decide)).trans e19
    clear hr
    refine tail_nil (hK50 _ _ ?_)
    refine wp_seq_k fun K55 hK55 => ?_
    refine rg mixed y54 zz54 ?_
    refine .i (sp_move (hbs rfl e17)) ?_
    refine .op (φ := IsT3 (IsD (Fr W52) (Rc.d (Rc.zero))) (Is (.string (⟨#[]⟩))) (Is (.bool (false)))) (st_t3 (st_d sub_all) (st_is _) (st_is _)) (sp_call1 (φ1 := Is (.pointer none)) ent56 (hlc rfl) (fun g u1 W hk hgk h1 => by have h1 : u1 = _ := h1; subst u1; exact (WonN_ok W).mono (fun _ _ ⟨v, h1, h2, r1, h3, h4⟩ => ⟨v, h1, h2, r1, _, _, h3, fresh_d hk hgk h4, rfl, rfl⟩))) ?_
    refine .op (φ := IsT3 (IsD (Fr W52) (Rc.d (Rc.zero))) (Is (.string (⟨#[]⟩))) (Is (.bool (false)))) (st_t3 (st_d sub_all) (st_is _) (st_is _)) (sp_move (hlc rfl)) ?_
    refine .da (X := Fr W52) (e := Rc.d (Rc.zero)) (sp_ext30 (hlc rfl)) ?_
    refine .i (v := (.string (⟨#[]⟩))) (sp_ext31 (hlc rfl)) ?_
    refine .i (v := (.bool (false))) (sp_ext32 (hlc rfl)) ?_
    refine .alloc z87 ?_
    refine .done ⟨by kernel_rfl, fun a56 g W56 y56 zz56 hk hg hV hR hP => ?_⟩
    obtain ⟨⟨b21_56, e21, hb21, own_b21_56⟩, e116, e115, e114, -, -, -, -⟩ := hV
    have lo_b21_56 : w.heap.size ≤ b21_56 := Nat.le_trans kw.size (hg.lo _ _ hb21)
    have ne_bo38_11_b21_56 : bo38_11 ≠ b21_56 := Nat.ne_of_lt (Nat.lt_of_lt_of_le own_bo38_11.lt (hg.lo _ _ hb21))
    have ne_b11_37_b21_56 : b11_37 ≠ b21_56 := Nat.ne_of_lt (Nat.lt_of_lt_of_le own_b11_37.lt (hg.lo _ _ hb21))
    have ne_b16_47_b21_56 : b16_47 ≠ b21_56 := Nat.ne_of_lt (Nat.lt_of_lt_of_le own_b16_47.lt (hg.lo _ _ hb21))
    have ne_b18_51_b21_56 : b18_51 ≠ b21_56 := Nat.ne_of_lt (Nat.lt_of_lt_of_le own_b18_51.lt (hg.lo _ _ hb21))
    have own_b21_56 : Own W56 b21_56 [(.int .i64 (0)), (.slice none 0 0), (.int .u8 (0)), (.int .i64 (0)), (.string (⟨#[]⟩)), (.slice none 0 0), (.slice none 0 0)] 87 := own_b21_56
    replace e15 := (hR 15 rfl).trans e15
    replace e16 := (hR 16 rfl).trans e16
    replace e17 := (hR 17 rfl).trans e17
    replace e20 := (hR 20 rfl).trans e20
    have hMx : ∀ b ∈ (b18_51 :: (b16_47 :: (b11_37 :: (blks hd1_21 ++ (bo38_11 :: []))))), b < W52.heap.size := (in_cons own_b18_51.lt (in_cons own_b16_47.lt (in_cons own_b11_37.lt (in_app A1_21.lt (in_cons own_bo38_11.lt in_nil)))))
    have nb_b21_56_ar19 : b21_56 ∉ blks hd1_21 := nb_lt A1_21.lt (hg.lo _ _ hb21)
    replace A1_21 : Arr W56 w.heap.size 156 8 (SF w (b21_56 :: (b18_51 :: (b16_47 :: (b11_37 :: (blks hd1_21 ++ (bo38_11 :: []))))))) (List.map Vo.d (VL 8)) va1_21 hd1_21 := arrF_more A1_21 hk [b21_56] (in_cons (hg.lo _ _ hb21) in_nil)
    obtain ⟨v114_56, ev⟩ : ∃ v, sl a56 114 = v := ⟨_, rfl⟩
    rw [ev] at e114
    have D_v114_56 : Rd W56 (SF w (b21_56 :: (b18_51 :: (b16_47 :: (b11_37 :: (blks hd1_21 ++ (bo38_11 :: []))))))) (Rc.d (Rc.zero)) v114_56 := fr_end (M := (b18_51 :: (b16_47 :: (b11_37 :: (blks hd1_21 ++ (bo38_11 :: [])))))) e114 kw [b21_56] (in_cons ⟨_, hb21⟩ in_nil) hMx
    replace e114 := ev; clear ev
    obtain ⟨v114_56_1a, v114_56_1c, v114_56_5a, v114_56_5c, v114_56_6a, v114_56_6c, ev, hb_v114_56_4, D_v114_56_1, D_v114_56_5, D_v114_56_6⟩ := rdRc_out D_v114_56
    subst ev; clear D_v114_56
    have e115 : sl a56 115 = (.string (⟨#[]⟩)) := e115
    have e116 : sl a56 116 = (.bool (false)) := e116
    replace own_bo38_11 := own_bo38_11.ext hk
    replace own_b11_37 := own_b11_37.ext hk
    replace own_b16_47 := own_b16_47.ext hk
    replace own_b18_51 := own_b18_51.ext hk
    replace kw := kw.x hk
    clear hR hk hg hP hb21
    refine tail_store (b := b21_56) (o := 0) (v := (.agg #[(.int .i64 (Rc.zero.ln)), (.slice v114_56_1a (Rc.zero.hs.length) v114_56_1c), (.int .u8 (Rc.zero.cu.k)), (.int .i64 (Rc.zero.cu.n)), (.string (Rc.zero.cu.t)), (.slice v114_56_5a (Rc.zero.cu.ns.length) v114_56_5c), (.slice v114_56_6a (Rc.zero.cu.xs.length) v114_56_6c)])) e21 e114 sz87 rfl own_b21_56 (lbr rfl) (all_cons rfl (all_cons rfl (all_cons rfl (all_cons rfl (all_cons rfl (all_cons rfl (all_cons rfl all_nil))))))) (fun W57 hs own_b21_56 => ?_)
    have own_b21_56 : Own W57 b21_56 [(.int .i64 (Rc.zero.ln)), (.slice v114_56_1a (Rc.zero.hs.length) v114_56_1c), (.int .u8 (Rc.zero.cu.k)), (.int .i64 (Rc.zero.cu.n)), (.string (Rc.zero.cu.t)), (.slice v114_56_5a (Rc.zero.cu.ns.length) v114_56_5c), (.slice v114_56_6a (Rc.zero.cu.xs.length) v114_56_6c)] 87 := own_b21_56
    replace own_bo38_11 := own_store own_bo38_11 hs ne_bo38_11_b21_56
    replace own_b11_37 := own_store own_b11_37 hs ne_b11_37_b21_56
    replace own_b16_47 := own_store own_b16_47 hs ne_b16_47_b21_56
    replace own_b18_51 := own_store own_b18_51 hs ne_b18_51_b21_56
    replace D_v114_56_1 := sf_store D_v114_56_1 hs (by simp)
    replace D_v114_56_5 := sf_store D_v114_56_5 hs (by simp)
    replace D_v114_56_6 := sf_store D_v114_56_6 hs (by simp)
    replace A1_21 := arrF_store A1_21 hs (by simp) nb_b21_56_ar19
    replace kw := keeps_store kw hs lo_b21_56
    clear hs
    refine tail_assign (v := (.string (⟨#[]⟩))) e115 (by rw [y56]; exact Nat.le_of_ble_eq_true rfl) (fun a58 y58 zz58 e22 hr => ?_)
    replace y58 := y58.trans y56; replace zz58 := zz58.trans zz56
    replace e15 := (hr 15 (by decide)).trans e15
    replace e16 := (hr 16 (by decide)).trans e16
    replace e17 := (hr 17 (by decide)).trans e17
    replace e20 := (hr 20 (by decide)).trans e20
    replace e21 := (hr 21 (by decide)).trans e21
    replace e114 := (hr 114 (by decide)).trans e114
    replace e115 := (hr 115 (by decide)).trans e115
    replace e116 := (hr 116 (by decide)).trans e116
    clear hr
    refine tail_assign (v := (.bool (false))) e116 (by rw [y58]; exact Nat.le_of_ble_eq_true rfl) (fun a59 y59 zz59 e23 hr => ?_)
    replace y59 := y59.trans y58; replace zz59 := zz59.trans zz58
    replace e15 := (hr 15 (by decide)).trans e15
    replace e16 := (hr 16 (by decide)).trans e16
    replace e17 := (hr 17 (by decide)).trans e17
    replace e20 := (hr 20 (by decide)).trans e20
    replace e21 := (hr 21 (by decide)).trans e21
    replace e114 := (hr 114 (by decide)).trans e114
    replace e115 := (hr 115 (by decide)).trans e115
    replace e116 := (hr 116 (by decide)).trans e116
    replace e22 := (hr 22 (by decide)).trans e22
    clear hr
    refine tail_nil (hK55 _ _ ?_)
    refine wp_seq_k fun K60 hK60 => ?_
    refine rg mixed y59 zz59 ?_
    refine .i (sp_move (hbs rfl e15)) ?_
    refine .i (sp_eql (hlc rfl) Has.cst) ?_
    refine .i (sp_move (hlc rfl)) ?_
    refine .e (t := 119) (v := (.bool (true))) rfl (hlc rfl) (fun hg => sp_call5 (φ1 := Is (.pointer (some ⟨b16_47, 0, none⟩))) (φ2 := Is (.string (⟨#[97]⟩))) (φ3 := Is (.bool (false))) (φ4 := Is (.int .i64 (0))) (φ5 := Is (.int .i64 (2))) ent60 (hbs rfl e16) Has.cst Has.cst Has.cst Has.cst (fun g u1 u2 u3 u4 u5 W hk hgk h1 h2 h3 h4 h5 => by have h1 : u1 = _ := h1; subst u1; have h2 : u2 = _ := h2; subst u2; have h3 : u3 = _ := h3; subst u3; have h4 : u4 = _ := h4; subst u4; have h5 : u5 = _ := h5; subst u5; exact addsNo_ok _ ⟨#[97]⟩ false 2 W (fun W2 v k hv => AddZ_ok ⟨#[97]⟩ (oneR false) W2 _ _ (rd_cln hv fun b o h => h.2) _ _ (own_b16_47.ext (hk.trans k))))) ?_
    refine .i (sp_and (hlc rfl) ((hlc rfl).weak fun hq => hq)) ?_
    refine .i (sp_move (hlc rfl)) ?_
    refine .e (t := 122) rfl (hlc rfl) (fun hg => sp_move (hbs rfl e17)) ?_
    refine .e (t := 122) (v := (.bool (true))) rfl (hlc rfl) (fun hg => sp_call5 (φ1 := Is (.pointer none)) (φ2 := Is (.string (⟨#[]⟩))) (φ3 := Is (.bool (false))) (φ4 := Is (.int .i64 (0))) (φ5 := Is (.int .i64 (2))) ent60 ((hlc rfl).undE hg) Has.cst Has.cst Has.cst Has.cst (fun g u1 u2 u3 u4 u5 W hk hgk h1 h2 h3 h4 h5 => by have h1 : u1 = _ := h1; subst u1; have h2 : u2 = _ := h2; subst u2; have h3 : u3 = _ := h3; subst u3; have h4 : u4 = _ := h4; subst u4; have h5 : u5 = _ := h5; subst u5; exact addsNo_ok _ ⟨#[]⟩ false 2 W (fun W2 v k hv => AddN_ok ⟨#[]⟩ (oneR false) W2 _ _ (rd_cln hv fun b o h => h.2)))) ?_
    refine .i (sp_and (hlc rfl) ((hlc rfl).weak fun hq => hq)) ?_
    refine .i (sp_move (hlc rfl)) ?_
    refine .e (t := 126) rfl (hlc rfl) (fun hg => sp_move (hbs rfl e20)) ?_
    refine .e (t := 126) rfl (hlc rfl) (fun hg => sp_not ((hlc rfl).undE hg)) ?_
    refine .i (sp_and (hlc rfl) ((hlc rfl).weak fun hq => hq)) ?_
    refine .i (sp_move (hlc rfl)) ?_
    refine .e (t := 130) rfl (hlc rfl) (fun hg => sp_move (hbs rfl e23)) ?_
    refine .e (t := 130) rfl (hlc rfl) (fun hg => sp_not ((hlc rfl).undE hg)) ?_
    refine .i (sp_and (hlc rfl) ((hlc rfl).weak fun hq => hq)) ?_
    refine .i (sp_move (hlc rfl)) ?_
    refine .e (t := 134) (v := (.int .i64 (0))) rfl (hlc rfl) (fun hg => sp_call1 (φ1 := Is (.pointer (some ⟨b16_47, 0, none⟩))) ent58 (hbs rfl e16) (fun g u1 W hk hgk h1 => by have h1 : u1 = _ := h1; subst u1; exact MostZ_ok W _ _ (own_b16_47.ext hk))) ?_
    refine .e (t := 134) rfl (hlc rfl) (fun hg => sp_eql ((hlc rfl).undE hg) Has.cst) ?_
    refine .i (sp_and (hlc rfl) ((hlc rfl).weak fun hq => hq)) ?_
    refine .i (sp_move (hlc rfl)) ?_
    refine .e (t := 138) rfl (hlc rfl) (fun hg => sp_move (hbs rfl e17)) ?_
    refine .e (t := 138) (v := (.int .i64 (0))) rfl (hlc rfl) (fun hg => sp_call1 (φ1 := Is (.pointer none)) ent58 ((hlc rfl).undE hg) (fun g u1 W hk hgk h1 => by have h1 : u1 = _ := h1; subst u1; exact MostN_ok W)) ?_
    refine .e (t := 138) rfl (hlc rfl) (fun hg => sp_eql ((hlc rfl).undE hg) Has.cst) ?_
    refine .i (sp_and (hlc rfl) ((hlc rfl).weak fun hq => hq)) ?_
    refine .i (sp_move (hlc rfl)) ?_
    refine .e (t := 143) (v := (.int .i64 (0))) rfl (hlc rfl) (fun hg => sp_call1 (φ1 := Is (.pointer (some ⟨b16_47, 0, none⟩))) ent57 (hbs rfl e16) (fun g u1 W hk hgk h1 => by have h1 : u1 = _ := h1; subst u1; exact LenZ_ok W _ _ (own_b16_47.ext hk))) ?_
    refine .e (t := 143) rfl (hlc rfl) (fun hg => sp_eql ((hlc rfl).undE hg) Has.cst) ?_
    refine .i (sp_and (hlc rfl) ((hlc rfl).weak fun hq => hq)) ?_
    refine .i (sp_move (hlc rfl)) ?_
    refine .e (t := 147) rfl (hlc rfl) (fun hg => sp_move (hbs rfl e17)) ?_
    refine .e (t := 147) (v := (.int .i64 (0))) rfl (hlc rfl) (fun hg => sp_call1 (φ1 := Is (.pointer none)) ent57 ((hlc rfl).undE hg) (fun g u1 W hk hgk h1 => by have h1 : u1 = _ := h1; subst u1; exact LenN_ok W)) ?_
    refine .e (t := 147) rfl (hlc rfl) (fun hg => sp_eql ((hlc rfl).undE hg) Has.cst) ?_
    refine .i (sp_and (hlc rfl) ((hlc rfl).weak fun hq => hq)) ?_
    refine .i (sp_move (hlc rfl)) ?_
    refine .e (t := 152) rfl (hlc rfl) (fun hg => sp_move (hbs rfl e17)) ?_
    refine .e (t := 152) (v := (.pointer none)) rfl (hlc rfl) (fun hg => sp_call1 (φ1 := Is (.pointer none)) ent61 ((hlc rfl).undE hg) (fun g u1 W hk hgk h1 => by have h1 : u1 = _ := h1; subst u1; exact CopyN_ok W)) ?_
    refine .e (t := 152) (v := (.bool (true))) rfl (hlc rfl) (fun hg => sp_nilEq Try.underlying91 ((hlc rfl).undE hg) Has.cst (by simp) rfl) ?_
    refine .i (sp_and (hlc rfl) ((hlc rfl).weak fun hq => hq)) ?_
    refine .i (sp_assign (hlc rfl)) ?_
    refine .done ⟨by kernel_rfl, fun a61 g W61 y61 zz61 hk hg hV hR hP => ?_⟩
    obtain ⟨e0, -, -, -, -, -, -, -, -, -, -, -, -, -, -, -, -, -, -, -, -, -, -, -, -, -, -, -, -, -, -, -, -, -, -, -, -, -, -, -, -, -⟩ := hV
    replace A1_21 := A1_21.ext hk
    replace e0 := e0.q
    replace own_bo38_11 := own_bo38_11.ext hk
    replace own_b11_37 := own_b11_37.ext hk
    replace own_b16_47 := own_b16_47.ext hk
    replace own_b18_51 := own_b18_51.ext hk
    replace own_b21_56 := own_b21_56.ext hk
    replace kw := kw.x hk
    clear hR hk hg hP
    refine tail_nil (hK60 _ _ ?_)
    refine wp_ret ?_
    refine (show bodyPost Try.prog Try.f9 _ .ret _ _ from ret1 rfl zz61 e0 ⟨_, rfl, kw, ?_⟩)
    refine congrArg Value.bool ?_
    first | rfl | simp
end Go.Proofs.Ytnobijngkpflcaa
namespace Go.Eng
open Go.ChangeShapes Go.WideShapes Go.ChangeAt Go.RowKit
section
variable {H : Type} {enc : TypeId × Value → H} {P : Program} {W : World}
theorem trodAll_stays (hl : laidOutB P = true) {W' : World} (hb : Below W.heap.size W W') : ∀ (ts : List TypeId) (vs : List Value) (ds : List (DataW H)) (ps : List MemPlace), (∀ t ∈ ts, P.readableRec t = true ∧ t < P.types.size) → (∀ x ∈ ps, x.block < W.heap.size) →
    DataW.TrodAll enc P W 0 (fun _ => true) true ts vs ds ps → DataW.TrodAll enc P W' 0 (fun b => decide (b < W.heap.size)) true ts vs ds ps
  | [], [], [], _, _, _, h => h
  | t :: ts, v :: vs, d :: ds, ps, ht, hlt, h => by
    obtain ⟨p, q, h1, h2, rfl⟩ := h
    exact ⟨p, q, Below.trod hl (ht t List.mem_cons_self).1 (ht t List.mem_cons_self).2 h1 hb (fun x hx => hlt x (List.mem_append_left _ hx)),
      trodAll_stays hl hb ts vs ds q (fun t h => ht t (List.mem_cons_of_mem _ h)) (fun x hx => hlt x (List.mem_append_right _ hx)) h2, rfl⟩
  | [], [], _ :: _, _, _, _, h => h.elim
  | [], _ :: _, _, _, _, _, h => h.elim
  | _ :: _, [], _, _, _, _, h => h.elim
  | _ :: _, _ :: _, [], _, _, _, h => h.elim
theorem law_post {f : Func} {s : ChangeSpec} {W' : World} {args : Array Value} {ds gs : List (DataW H)} {before : List MemPlace} {tb : TypeId} (hl : laidOutB P = true) (hpar : ∀ t ∈ f.params.toList, P.readableRec t = true ∧ t < P.types.size)
    (hvars : s.vars = []) (hrt : f.resultTypes = #[tb]) (hb : P.underlying tb = some .bool) (hfn : s.fn H (ds ++ gs) = { results := [.lit (.bool true)], args := ds })
    (hW : DataW.Whole enc P f.params.toList s.vars false W args.toList ds gs before) (hk : Ext W W') : s.post enc P f false true false false W args (.bool true) W' := by
  have hlt := hW.lt
  have hW' := hW
  obtain ⟨p, q, hA, hV, rfl, hfz, hnd⟩ := hW
  have hbel : Below W.heap.size W W' := ⟨hk.os, hk.tape, hk.output, hk.size, fun k h => hk.block k h trivial⟩
  refine ⟨ds, gs, p ++ q, [], p, [], hW', ?_, ?_, ?_, ?_, fun h => by cases h⟩
  · rw [hfn, hrt]
    exact ⟨[], [], ⟨1, by simp [Value.resultList, Value.cells, DataW.trod, hb]⟩, rfl, rfl⟩
  · rw [hfn]
    exact trodAll_stays hl hbel _ _ _ _ hpar (fun x hx => hlt x (List.mem_append_left _ hx)) hA
  · rw [hfn, hvars]; rfl
  · refine ⟨hk.os, hk.output, fun i hi => ?_⟩
    rw [hk.block i hi trivial]
    cases hq : W.heap[i]? with
    | none => rfl
    | some o => cases o <;> simp
end
end Go.Eng
namespace Go.Proofs.Ytnobijngkpflcaa
open Go.Eng Go.ChangeShapes Go.WideShapes Go.ChangeAt Go.RowKit
theorem Try.own : ownKnob Try.prog.godebug = none := by kernel_rfl
theorem Try.laidOut : laidOutB Try.prog = true := by kernel_rfl
set_option maxRecDepth 100000 in
theorem VoteNames_lifted (os : Os) (started : os.Started) (H : Type) (enc : TypeId × Value → H) :
    ReturnsInHanded {} Try.checked os 9 .any (Rows.voteNamesSpec.pre6 enc Try.prog Try.f9 Rows.voteNamesRow.domain false) (Rows.voteNamesSpec.post enc Try.prog Try.f9 false true false false) := by
  refine returnsInHanded_of_change (C := Try.checked) Try.own started (by kernel_rfl) Try.func9
    (ChangeSpec.witness6 (enc := enc) (C := Try.checked) false ⟨#[], #[], []⟩ 8 (by kernel_rfl) (by kernel_rfl) (by kernel_rfl) (by kernel_rfl)) ?_
  intro W base args ds gs before hval0 hW hcnd _
  have hval : ∀ (j : Nat) t v, Try.f9.params[j]? = some t → args[j]? = some v → Value.okWide Try.prog W .any base t v := hval0
  have hW' := hW
  obtain ⟨p, q, hA0, hV, rfl, hfz, hnd⟩ := hW
  have hA : DataW.TrodAll enc Try.prog W 0 (fun _ => true) true Try.f9.params.toList args.toList ds p := hA0
  rw [Try.params9] at hA hval
  obtain ⟨hargs, rfl, rfl⟩ := trodAll_nil hA
  have hargs : args = #[] := by simpa using hargs
  subst hargs
  obtain ⟨rfl, rfl⟩ := trodVars_none hV
  refine (VoteNames_ok W).mono fun e W' ⟨v, he, hk, hv⟩ => ?_
  subst hv
  exact ⟨_, he, law_post Try.laidOut (of_decide_eq_true (by kernel_rfl)) rfl (tb := 4) (by kernel_rfl) Try.underlying4 rfl hW' hk⟩
theorem voteNames_holds : Rows.VoteNamesSaid :=
  OpenClaim.holds_of_wide 9 Try.f9 rfl rfl rfl rfl rfl rfl rfl ⟨rfl, rfl, rfl, rfl, rfl⟩ rfl rfl rfl rfl rfl (by kernel_rfl) Try.func9 (by kernel_rfl)
    (of_decide_eq_true (by kernel_rfl)) (by unfold Func.isWrapper; first | (rw [if_pos (by decide +kernel)]; kernel_rfl) | (rw [if_neg (by decide +kernel)]; exact ⟨rfl, rfl⟩))
    (fun os started H enc _ => VoteNames_lifted os started H enc)
end Go.Proofs.Ytnobijngkpflcaa
