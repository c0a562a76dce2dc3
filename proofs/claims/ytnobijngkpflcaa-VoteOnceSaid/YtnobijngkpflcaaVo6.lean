/-
  The law VoteOnce of package legatelaw30 returns true for every input, and leaves its arguments as they were. No condition beyond the row's own.
-/
import Derived.Test.YtnobijngkpflcaaVo5
import Derived.ProofKit
import Derived.Test.YtnobijngkpflcaaRows
namespace Go.Proofs.Ytnobijngkpflcaa
open Go.Eng
set_option maxRecDepth 100000 in
set_option maxHeartbeats 4000000 in
theorem VoteOnce_ok (u : World) (n : Int) (l : List To) (m : To) (w : World) (S : BSet) (v1 v2 : Value) (hu : u.heap.size ≤ w.heap.size) (hPin : Pin u S) (havl : AVts u v1) (havm : AVt u v2) (hv1 : Rd w S (tosD l) v1) (hv2 : Rd w S m.d v2) : Calls Try.prog 8 #[.int .i64 n, v1, v2] w (Ret w fun q _ => q = .bool true) := by
  have hmx : l.length ≤ maxLen := rdTos_len hv1
  simp only [maxLen] at hmx
  obtain ⟨v1a, v1c, ev, D_v1⟩ := rdTos_out (rd_arg hv1)
  subst ev
  obtain ⟨p2_2a, p2_2c, p2_6a, p2_6c, p2_7a, p2_7c, ev, hb_p2_0, hb_p2_5, D_p2_2, D_p2_6, D_p2_7⟩ := rdTo_out (rd_arg hv2)
  subst ev
  refine enter Try.func8 rfl Try.ntmps8 (lbr rfl) fun a0 y0 zz0 harg => ?_
  have e0 : sl a0 0 = (.int .i64 (n)) := harg 0 (lbr rfl)
  have e1 : sl a0 1 = (.slice v1a (l.length) v1c) := harg 1 (lbr rfl)
  have e2 : sl a0 2 = (.agg #[(.string (m.repo)), (.int .i64 (m.r.ln)), (.slice p2_2a (m.r.hs.length) p2_2c), (.int .u8 (m.r.cu.k)), (.int .i64 (m.r.cu.n)), (.string (m.r.cu.t)), (.slice p2_6a (m.r.cu.ns.length) p2_6c), (.slice p2_7a (m.r.cu.xs.length) p2_7c)]) := harg 2 (lbr rfl)
  have kw := Keeps.refl All w
  clear harg
  refine wp_seq_k fun K1 hK1 => ?_
  refine rg mixed y0 zz0 ?_
  refine .boxOp (v := (.agg #[(.string (m.repo)), (.int .i64 (m.r.ln)), (.slice p2_2a (m.r.hs.length) p2_2c), (.int .u8 (m.r.cu.k)), (.int .i64 (m.r.cu.n)), (.string (m.r.cu.t)), (.slice p2_6a (m.r.cu.ns.length) p2_6c), (.slice p2_7a (m.r.cu.xs.length) p2_7c)])) (hbs rfl e2) ?_
  refine .i (sp_assign Has.cst) ?_
  refine .done ⟨by kernel_rfl, fun a2 g W2 y2 zz2 hk hg hV hR hP => ?_⟩
  obtain ⟨-, ⟨b5_2, e5, hb5, own_b5_2⟩, -⟩ := hV
  have lo_b5_2 : w.heap.size ≤ b5_2 := Nat.le_trans kw.size (hg.lo _ _ hb5)
  have own_b5_2 : Own W2 b5_2 [(.string (m.repo)), (.int .i64 (m.r.ln)), (.slice p2_2a (m.r.hs.length) p2_2c), (.int .u8 (m.r.cu.k)), (.int .i64 (m.r.cu.n)), (.string (m.r.cu.t)), (.slice p2_6a (m.r.cu.ns.length) p2_6c), (.slice p2_7a (m.r.cu.xs.length) p2_7c)] 89 := own_b5_2
  replace e0 := (hR 0 rfl).trans e0
  replace e1 := (hR 1 rfl).trans e1
  replace D_v1 := sa_more D_v1 hk [b5_2] (in_cons (hg.lo _ _ hb5) in_nil)
  replace D_p2_2 := sa_more D_p2_2 hk [b5_2] (in_cons (hg.lo _ _ hb5) in_nil)
  replace D_p2_6 := sa_more D_p2_6 hk [b5_2] (in_cons (hg.lo _ _ hb5) in_nil)
  replace D_p2_7 := sa_more D_p2_7 hk [b5_2] (in_cons (hg.lo _ _ hb5) in_nil)
  replace kw := kw.x hk
  clear hR hk hg hP hb5
  refine tail_nil (hK1 _ _ ?_)
  refine wp_seq_k fun K3 hK3 => ?_
  refine wp_seq_k fun K4 hK4 => ?_
  refine rg mixed y2 zz2 ?_
  refine .i (sp_move (hbs rfl e1)) ?_
  refine .i (v := (.bool (fewB l))) (sp_call1 (φ1 := IsD (SA w S [b5_2]) (tosD (l))) ent52 ((hlc rfl).dat D_v1 sub_all) (fun g u1 W hk hgk h1 => few30_ok (l) W _ _ h1)) ?_
  refine .i (sp_not (hlc rfl)) ?_
  refine .i (sp_move (hlc rfl)) ?_
  refine .e (t := 27) (v := (.agg #[(.string (m.repo)), (.int .i64 (m.r.ln)), (.slice p2_2a (m.r.hs.length) p2_2c), (.int .u8 (m.r.cu.k)), (.int .i64 (m.r.cu.n)), (.string (m.r.cu.t)), (.slice p2_6a (m.r.cu.ns.length) p2_6c), (.slice p2_7a (m.r.cu.xs.length) p2_7c)])) rfl (hlc rfl) (fun hg => loA (hbs rfl e5) own_b5_2 trivial agg89 sz89 rfl rfl) ?_
  refine .opE (t := 27) (φ := IsD (SA w S [b5_2]) (tosD ([m]))) rfl (hlc rfl) (st_d sub_all) (fun hg => sp_bsl (ds := [To.d (m)]) Try.underlying84 sz89 z89 (lbr rfl) (lbr rfl) ⟨rfl, (((hlc rfl).undE hg).dat (rdTo_mk hb_p2_0 (rdRc_mk D_p2_2 (rdV_in (x := m.r.cu) hb_p2_5 D_p2_6 D_p2_7 : Rd W2 (SA w S [b5_2]) (V.d (m.r.cu)) _) : Rd W2 (SA w S [b5_2]) (Rc.d (m.r)) _) : Rd W2 (SA w S [b5_2]) (To.d (m)) _) sub_all), trivial⟩ rfl (by intro e he; simp at he; rcases he with rfl <;> exact width_To _) (fr_sa kw (in_cons own_b5_2.lt in_nil))) ?_
  refine .e (t := 27) (v := (.bool (fewB ([m])))) rfl (hlc rfl) (fun hg => sp_call1 (φ1 := IsD (SA w S [b5_2]) (tosD ([m]))) ent52 ((hlc rfl).undE hg) (fun g u1 W hk hgk h1 => few30_ok ([m]) W _ _ h1)) ?_
  refine .e (t := 27) rfl (hlc rfl) (fun hg => sp_not ((hlc rfl).undE hg)) ?_
  refine .i (sp_or (hlc rfl) ((hlc rfl).weak fun hq => hq)) ?_
  refine .i (sp_move (hlc rfl)) ?_
  refine .e (t := 33) rfl (hlc rfl) (fun hg => sp_move (hbs rfl e0)) ?_
  refine .e (t := 33) rfl (hlc rfl) (fun hg => sp_lss ((hlc rfl).undE hg) Has.cst) ?_
  refine .i (sp_or (hlc rfl) ((hlc rfl).weak fun hq => hq)) ?_
  refine .i (sp_move (hlc rfl)) ?_
  refine .e (t := 37) rfl (hlc rfl) (fun hg => sp_move (hbs rfl e0)) ?_
  refine .e (t := 37) rfl (hlc rfl) (fun hg => sp_gtr ((hlc rfl).undE hg) Has.cst) ?_
  refine .i (sp_or (hlc rfl) ((hlc rfl).weak fun hq => hq)) ?_
  refine .i (sp_move (hlc rfl)) ?_
  refine .e (t := 41) (v := (.bool (true))) rfl (hlc rfl) (fun hg => sp_call0  ent53  (fun g  W hk hgk  => awake30_ok W)) ?_
  refine .e (t := 41) rfl (hlc rfl) (fun hg => sp_not ((hlc rfl).undE hg)) ?_
  refine .i (sp_or (hlc rfl) ((hlc rfl).weak fun hq => hq)) ?_
  refine .done ⟨by kernel_rfl, fun a5 g W5 y5 zz5 hk hg hV hR hP => ?_⟩
  obtain ⟨e44, -, -, -, -, -, -, -, -, -, -, -, -, -, -, -, -, -, -, -, -, -⟩ := hV
  replace e0 := (hR 0 rfl).trans e0
  replace e1 := (hR 1 rfl).trans e1
  replace e5 := (hR 5 rfl).trans e5
  replace D_v1 := D_v1.ext hk
  replace D_p2_2 := D_p2_2.ext hk
  replace D_p2_6 := D_p2_6.ext hk
  replace D_p2_7 := D_p2_7.ext hk
  replace e44 := e44.q
  replace own_b5_2 := own_b5_2.ext hk
  replace kw := kw.x hk
  clear hR hk hg hP
  refine tail_nil (hK4 _ _ ?_)
  refine wp_cond_split e44 (fun hc => ?_) (fun hc => ?_)
  ·
   refine wp_seq_k fun K6 hK6 => ?_
   refine rg mixed y5 zz5 ?_
   refine .i (v := (.bool (true))) (sp_call0  ent53  (fun g  W hk hgk  => awake30_ok W)) ?_
   refine .i (sp_assign (hlc rfl)) ?_
   refine .done ⟨by kernel_rfl, fun a7 g W7 y7 zz7 hk hg hV hR hP => ?_⟩
   obtain ⟨e6, -, -⟩ := hV
   replace D_v1 := D_v1.ext hk
   replace D_p2_2 := D_p2_2.ext hk
   replace D_p2_6 := D_p2_6.ext hk
   replace D_p2_7 := D_p2_7.ext hk
   have e6 : sl a7 6 = (.bool (true)) := e6
   replace own_b5_2 := own_b5_2.ext hk
   replace kw := kw.x hk
   clear hR hk hg hP
   refine tail_nil (hK6 _ _ ?_)
   refine wp_ret ?_
   refine (show bodyPost Try.prog Try.f8 _ .ret _ _ from ret1 rfl zz7 e6 ⟨_, rfl, kw, ?_⟩)
   exact rfl
  ·
   simp only [Bool.or_eq_false_iff, Bool.not_eq_false', decide_eq_false_iff_not] at hc
   obtain ⟨⟨⟨⟨hfl, hfm0⟩, hn1a⟩, hn8a⟩, -⟩ := hc
   have hn1 : 1 ≤ n := by omega
   have hn8 : n ≤ 8 := by omega
   have hw : 0 < n := by omega
   have hl14 := few_len hfl
   refine wp_skip (hK3 _ _ ?_)
   refine wp_seq_k fun K8 hK8 => ?_
   refine rg mixed y5 zz5 ?_
   refine .i (sp_move (hbs rfl e0)) ?_
   refine .op (φ := IsT (IsNB W5 [(.int .i64 (n)), (.slice none 0 0)] 104) (Is (.int .i64 (0)))) (st_t st_nb (st_is _)) (sp_call1 (φ1 := Is (.int .i64 (n))) ent54 (hlc rfl) (fun g u1 W hk hgk h1 => by have h1 : u1 = _ := h1; subst u1; exact (New_ok n hn1 hn8 W).mono (fun _ _ ⟨v, h1, h2, b, h3, h4, h5⟩ => ⟨v, h1, h2, _, _, h3, nb_up hk ⟨b, rfl, h4, h5⟩, rfl⟩))) ?_
   refine .op (φ := IsT (IsNB W5 [(.int .i64 (n)), (.slice none 0 0)] 104) (Is (.int .i64 (0)))) (st_t st_nb (st_is _)) (sp_move (hlc rfl)) ?_
   refine .op (φ := IsNB W5 [(.int .i64 (n)), (.slice none 0 0)] 104) st_nb (sp_ext2 (hlc rfl) rfl) ?_
   refine .i (v := (.int .i64 (0))) (sp_ext2' (hlc rfl) rfl) ?_
   refine .done ⟨by kernel_rfl, fun a9 g W9 y9 zz9 hk hg hV hR hP => ?_⟩
   obtain ⟨e50, e49, -, -, -, -⟩ := hV
   replace e1 := (hR 1 rfl).trans e1
   replace e5 := (hR 5 rfl).trans e5
   obtain ⟨bo49_9, e49, lr_bo49_9, own_bo49_9⟩ := e49
   have e49 : sl a9 49 = (.pointer (some ⟨bo49_9, 0, none⟩)) := e49
   have lo_bo49_9 : w.heap.size ≤ bo49_9 := Nat.le_trans kw.size lr_bo49_9
   have ne_b5_2_bo49_9 : b5_2 ≠ bo49_9 := Nat.ne_of_lt (Nat.lt_of_lt_of_le own_b5_2.lt lr_bo49_9)
   replace D_v1 : Rd W9 (SA w S [bo49_9, b5_2]) (tosD (l)) (.slice v1a (l.length) v1c) := sa_more D_v1 hk [bo49_9] (in_cons lr_bo49_9 in_nil)
   replace D_p2_2 : Rd W9 (SA w S [bo49_9, b5_2]) (hssD (m.r.hs)) (.slice p2_2a (m.r.hs.length) p2_2c) := sa_more D_p2_2 hk [bo49_9] (in_cons lr_bo49_9 in_nil)
   replace D_p2_6 : Rd W9 (SA w S [bo49_9, b5_2]) (strsD (m.r.cu.ns)) (.slice p2_6a (m.r.cu.ns.length) p2_6c) := sa_more D_p2_6 hk [bo49_9] (in_cons lr_bo49_9 in_nil)
   replace D_p2_7 : Rd W9 (SA w S [bo49_9, b5_2]) (valsD (m.r.cu.xs)) (.slice p2_7a (m.r.cu.xs.length) p2_7c) := sa_more D_p2_7 hk [bo49_9] (in_cons lr_bo49_9 in_nil)
   have own_bo49_9 : Own W9 bo49_9 [(.int .i64 (n)), (.slice none 0 0)] 104 := own_bo49_9
   have e50 : sl a9 50 = (.int .i64 (0)) := e50
   replace own_b5_2 := own_b5_2.ext hk
   replace kw := kw.x hk
   clear hR hk hg hP lr_bo49_9
   refine tail_assign (v := (.pointer (some ⟨bo49_9, 0, none⟩))) e49 (by rw [y9]; exact Nat.le_of_ble_eq_true rfl) (fun a10 y10 zz10 e7 hr => ?_)
   replace y10 := y10.trans y9; replace zz10 := zz10.trans zz9
   replace e1 := (hr 1 (by decide)).trans e1
   replace e5 := (hr 5 (by decide)).trans e5
   replace e50 := (hr 50 (by decide)).trans e50
   replace e49 := (hr 49 (by decide)).trans e49
   clear hr
   refine tail_assign (v := (.int .i64 (0))) e50 (by rw [y10]; exact Nat.le_of_ble_eq_true rfl) (fun a11 y11 zz11 e8 hr => ?_)
   replace y11 := y11.trans y10; replace zz11 := zz11.trans zz10
   replace e1 := (hr 1 (by decide)).trans e1
   replace e5 := (hr 5 (by decide)).trans e5
   replace e50 := (hr 50 (by decide)).trans e50
   replace e49 := (hr 49 (by decide)).trans e49
   replace e7 := (hr 7 (by decide)).trans e7
   clear hr
   refine tail_nil (hK8 _ _ ?_)
   refine wp_seq_k fun K12 hK12 => ?_
   refine wp_seq_k fun K13 hK13 => ?_
   refine rg mixed y11 zz11 ?_
   refine .i (sp_move (hbs rfl e8)) ?_
   refine .i (sp_neq (hlc rfl) Has.cst) ?_
   refine .done ⟨by kernel_rfl, fun a14 g W14 y14 zz14 hk hg hV hR hP => ?_⟩
   obtain ⟨e52, -, -⟩ := hV
   replace e1 := (hR 1 rfl).trans e1
   replace e5 := (hR 5 rfl).trans e5
   replace e7 := (hR 7 rfl).trans e7
   replace D_v1 := D_v1.ext hk
   replace D_p2_2 := D_p2_2.ext hk
   replace D_p2_6 := D_p2_6.ext hk
   replace D_p2_7 := D_p2_7.ext hk
   have e52 : sl a14 52 = (.bool ((0 : Int) != (0 : Int))) := e52
   replace own_b5_2 := own_b5_2.ext hk
   replace own_bo49_9 := own_bo49_9.ext hk
   replace kw := kw.x hk
   clear hR hk hg hP
   refine tail_nil (hK13 _ _ ?_)
   refine wp_cond_false (e52.trans (congrArg Value.bool (by decide))) ?_
   refine wp_skip (hK12 _ _ ?_)
   refine wp_seq_k fun K15 hK15 => ?_
   refine rg mixed y14 zz14 ?_
   refine .i (sp_assign Has.cst) ?_
   refine .done ⟨by kernel_rfl, fun a16 g W16 y16 zz16 hk hg hV hR hP => ?_⟩
   obtain ⟨e9, -⟩ := hV
   replace e1 := (hR 1 rfl).trans e1
   replace e5 := (hR 5 rfl).trans e5
   replace e7 := (hR 7 rfl).trans e7
   replace D_v1 := D_v1.ext hk
   replace D_p2_2 := D_p2_2.ext hk
   replace D_p2_6 := D_p2_6.ext hk
   replace D_p2_7 := D_p2_7.ext hk
   have e9 : sl a16 9 = (.slice none 0 0) := e9
   replace own_b5_2 := own_b5_2.ext hk
   replace own_bo49_9 := own_bo49_9.ext hk
   replace kw := kw.x hk
   clear hR hk hg hP
   refine tail_nil (hK15 _ _ ?_)
   refine wp_seq_k fun K17 hK17 => ?_
   refine wp_seq_k fun K18 hK18 => ?_
   have A_ar19 : Arr W16 w.heap.size 156 8 (SF w (blks none ++ (bo49_9 :: (b5_2 :: [])))) (List.map Vo.d ([])) (.slice none 0 0) none := arr_nil _ _ _ _ _
   replace D_v1 : Rd W16 (SA w S (blks none ++ (bo49_9 :: (b5_2 :: [])))) (tosD (l)) (.slice v1a (l.length) v1c) := D_v1
   replace D_p2_2 : Rd W16 (SA w S (blks none ++ (bo49_9 :: (b5_2 :: [])))) (hssD (m.r.hs)) (.slice p2_2a (m.r.hs.length) p2_2c) := D_p2_2
   replace D_p2_6 : Rd W16 (SA w S (blks none ++ (bo49_9 :: (b5_2 :: [])))) (strsD (m.r.cu.ns)) (.slice p2_6a (m.r.cu.ns.length) p2_6c) := D_p2_6
   replace D_p2_7 : Rd W16 (SA w S (blks none ++ (bo49_9 :: (b5_2 :: [])))) (valsD (m.r.cu.xs)) (.slice p2_7a (m.r.cu.xs.length) p2_7c) := D_p2_7
   refine rg mixed y16 zz16 ?_
   refine .i (sp_assign Has.cst) ?_
   refine .done ⟨by kernel_rfl, fun a20 g W20 y20 zz20 hk hg hV hR hP => ?_⟩
   obtain ⟨e10, -⟩ := hV
   replace e1 := (hR 1 rfl).trans e1
   replace e5 := (hR 5 rfl).trans e5
   replace e7 := (hR 7 rfl).trans e7
   replace e9 := (hR 9 rfl).trans e9
   replace A_ar19 := A_ar19.ext hk
   replace D_v1 := D_v1.ext hk
   replace D_p2_2 := D_p2_2.ext hk
   replace D_p2_6 := D_p2_6.ext hk
   replace D_p2_7 := D_p2_7.ext hk
   have e10 : sl a20 10 = (.int .i64 (0)) := e10
   replace own_b5_2 := own_b5_2.ext hk
   replace own_bo49_9 := own_bo49_9.ext hk
   replace kw := kw.x hk
   clear hR hk hg hP
   refine tail_nil (hK18 _ _ ?_)
   refine wp_block ?_
   have A_ar21 : Arr W20 w.heap.size 9 1 (SF w (blks (none) ++ (blks none ++ (bo49_9 :: (b5_2 :: []))))) (List.map D.str ([])) (.slice none 0 0) (none) := arr_nil _ _ _ _ _
   replace D_v1 : Rd W20 (SA w S (blks (none) ++ (blks none ++ (bo49_9 :: (b5_2 :: []))))) (tosD (l)) (.slice v1a (l.length) v1c) := D_v1
   replace D_p2_2 : Rd W20 (SA w S (blks (none) ++ (blks none ++ (bo49_9 :: (b5_2 :: []))))) (hssD (m.r.hs)) (.slice p2_2a (m.r.hs.length) p2_2c) := D_p2_2
   replace D_p2_6 : Rd W20 (SA w S (blks (none) ++ (blks none ++ (bo49_9 :: (b5_2 :: []))))) (strsD (m.r.cu.ns)) (.slice p2_6a (m.r.cu.ns.length) p2_6c) := D_p2_6
   replace D_p2_7 : Rd W20 (SA w S (blks (none) ++ (blks none ++ (bo49_9 :: (b5_2 :: []))))) (valsD (m.r.cu.xs)) (.slice p2_7a (m.r.cu.xs.length) p2_7c) := D_p2_7
   replace A_ar19 : Arr W20 w.heap.size 156 8 (SF w (blks (none) ++ (blks none ++ (bo49_9 :: (b5_2 :: []))))) (List.map Vo.d ([])) (.slice none 0 0) none := A_ar19
   refine wp_for (l.length) (fun k a W => ∃ (L : List Vo), ∃ (va1_22 : Value), ∃ (hd1_22 : Option Nat), ∃ (vs9_22 : Value), ∃ (hds9_22 : Option Nat), a.tmps.size = 196 ∧ a.defers = [] ∧ Keeps All w W ∧ sl a 1 = (.slice v1a (l.length) v1c) ∧ sl a 5 = (.pointer (some ⟨b5_2, 0, none⟩)) ∧ sl a 7 = (.pointer (some ⟨bo49_9, 0, none⟩)) ∧ sl a 9 = vs9_22 ∧ sl a 10 = (.int .i64 ((k : Nat))) ∧ Own W b5_2 [(.string (m.repo)), (.int .i64 (m.r.ln)), (.slice p2_2a (m.r.hs.length) p2_2c), (.int .u8 (m.r.cu.k)), (.int .i64 (m.r.cu.n)), (.string (m.r.cu.t)), (.slice p2_6a (m.r.cu.ns.length) p2_6c), (.slice p2_7a (m.r.cu.xs.length) p2_7c)] 89 ∧ Own W bo49_9 [(.int .i64 (n)), va1_22] 104 ∧ Rd W (SA w S (blks hds9_22 ++ (blks hd1_22 ++ (bo49_9 :: (b5_2 :: []))))) (tosD (l)) (.slice v1a (l.length) v1c) ∧ Rd W (SA w S (blks hds9_22 ++ (blks hd1_22 ++ (bo49_9 :: (b5_2 :: []))))) (hssD (m.r.hs)) (.slice p2_2a (m.r.hs.length) p2_2c) ∧ Rd W (SA w S (blks hds9_22 ++ (blks hd1_22 ++ (bo49_9 :: (b5_2 :: []))))) (strsD (m.r.cu.ns)) (.slice p2_6a (m.r.cu.ns.length) p2_6c) ∧ Rd W (SA w S (blks hds9_22 ++ (blks hd1_22 ++ (bo49_9 :: (b5_2 :: []))))) (valsD (m.r.cu.xs)) (.slice p2_7a (m.r.cu.xs.length) p2_7c) ∧ Arr W w.heap.size 156 8 (SF w (blks hds9_22 ++ (blks hd1_22 ++ (bo49_9 :: (b5_2 :: []))))) (List.map Vo.d (L)) va1_22 hd1_22 ∧ b5_2 ∉ blks hd1_22 ∧ bo49_9 ∉ blks hd1_22 ∧ Arr W w.heap.size 9 1 (SF w (blks hds9_22 ++ (blks hd1_22 ++ (bo49_9 :: (b5_2 :: []))))) (List.map D.str (List.map Vo.repo L)) vs9_22 hds9_22 ∧ b5_2 ∉ blks hds9_22 ∧ bo49_9 ∉ blks hds9_22 ∧ (∀ b ∈ blks hd1_22, b ∉ blks hds9_22) ∧ (L.all okVo = true) ∧ (L.length ≤ 8)) ⟨[], (.slice none 0 0), none, (.slice none 0 0), (none), y20, zz20, kw, e1, e5, e7, e9, (e10.trans (congrArg (Value.int .i64) (rfl))), own_b5_2, own_bo49_9, D_v1, D_p2_2, D_p2_6, D_p2_7, A_ar19, nb_none, nb_none, A_ar21, nb_none, nb_none, (fun _ _ => nb_none), rfl, (by decide)⟩ ?_
   clear kw e1 e5 e7 e9 e10 own_b5_2 own_bo49_9 D_v1 D_p2_2 D_p2_6 D_p2_7 A_ar19 A_ar21
   rintro k a22 W22 hkk ⟨L, va1_22, hd1_22, vs9_22, hds9_22, y22, zz22, kw, e1, e5, e7, e9, e10, own_b5_2, own_bo49_9, D_v1, D_p2_2, D_p2_6, D_p2_7, A1_22, nb_b5_2_ar19_22, nb_bo49_9_ar19_22, As9_22, nb_b5_2_ar21_22, nb_bo49_9_ar21_22, dj_ar19_ar21_22, hok, hL8⟩
   refine wp_seq_k fun K23 hK23 => ?_
   refine wp_seq_k fun K24 hK24 => ?_
   refine rg mixed y22 zz22 ?_
   refine .i (sp_move (hbs rfl e10)) ?_
   refine .i (sp_move (hbs rfl e1)) ?_
   refine .i (sp_lenL Try.underlying84 ((hlc rfl).dat D_v1 sub_all)) ?_
   refine .i (sp_lss (hlc rfl) (hlc rfl)) ?_
   refine .done ⟨by kernel_rfl, fun a25 g W25 y25 zz25 hk hg hV hR hP => ?_⟩
   obtain ⟨e56, -, -, -, -⟩ := hV
   replace e1 := (hR 1 rfl).trans e1
   replace e5 := (hR 5 rfl).trans e5
   replace e7 := (hR 7 rfl).trans e7
   replace e9 := (hR 9 rfl).trans e9
   replace e10 := (hR 10 rfl).trans e10
   replace A1_22 := A1_22.ext hk
   replace As9_22 := As9_22.ext hk
   replace D_v1 := D_v1.ext hk
   replace D_p2_2 := D_p2_2.ext hk
   replace D_p2_6 := D_p2_6.ext hk
   replace D_p2_7 := D_p2_7.ext hk
   replace e56 := e56.q
   replace own_b5_2 := own_b5_2.ext hk
   replace own_bo49_9 := own_bo49_9.ext hk
   replace kw := kw.x hk
   clear hR hk hg hP
   refine tail_nil (hK24 _ _ ?_)
   refine wp_cond_split e56 (fun hc => ?_) (fun hc => ?_)
   ·
    have hlt : k < l.length := by simpa using hc
    refine wp_skip (hK23 _ _ ?_)
    refine wp_seq_k fun K26 hK26 => ?_
    refine wp_block ?_
    refine wp_seq_k fun K27 hK27 => ?_
    obtain ⟨bq, oq, hqa, hqc, nqa, nqc, xqa, xqc, evq, hltq, hcq, hrq, htq, hhq, hnq, hxq, av_xq⟩ := el_told hPin havl hv1 hlt
    have D_hq : Rd W25 (SA w S (blks hds9_22 ++ (blks hd1_22 ++ (bo49_9 :: (b5_2 :: []))))) (hssD ((l[k]'hlt).r.hs)) (.slice hqa (((l[k]'hlt).r.hs).length) hqc) := (rd_argQ hhq (in_app As9_22.ge (in_app A1_22.ge (in_cons lo_bo49_9 (in_cons lo_b5_2 in_nil))))).ext kw
    have D_nq : Rd W25 (SA w S (blks hds9_22 ++ (blks hd1_22 ++ (bo49_9 :: (b5_2 :: []))))) (strsD ((l[k]'hlt).r.cu.ns)) (.slice nqa (((l[k]'hlt).r.cu.ns).length) nqc) := (rd_argQ hnq (in_app As9_22.ge (in_app A1_22.ge (in_cons lo_bo49_9 (in_cons lo_b5_2 in_nil))))).ext kw
    have D_xq : Rd W25 (SA w S (blks hds9_22 ++ (blks hd1_22 ++ (bo49_9 :: (b5_2 :: []))))) (valsD ((l[k]'hlt).r.cu.xs)) (.slice xqa (((l[k]'hlt).r.cu.xs).length) xqc) := (rd_argQ hxq (in_app As9_22.ge (in_app A1_22.ge (in_cons lo_bo49_9 (in_cons lo_b5_2 in_nil))))).ext kw
    have hfe := few_el hfl _ (List.getElem_mem hlt)
    refine wp_reg (fun k => k ∉ (bo49_9 :: (blks hd1_22 ++ []))) (Ψ := fun W => Own W bo49_9 [(.int .i64 (n)), va1_22] 104 ∧ Arr W w.heap.size 156 8 (SF w (blks hds9_22 ++ (blks hd1_22 ++ (bo49_9 :: (b5_2 :: []))))) (List.map Vo.d (L)) va1_22 hd1_22) mixed y25 zz25 stE_boxR ⟨own_bo49_9, A1_22⟩ ?_
    refine .i (sp_move (hbs rfl e7)) ?_
    refine .i (sp_move (hbs rfl e1)) ?_
    refine .i (sp_move (hbs rfl e10)) ?_
    refine .i (v := (.pointer (some ⟨bq, oq + k * 8, none⟩))) (sp_indexQ8 (i := k) evq (hlc rfl) (hlc rfl) Try.underlying84 sz89 hlt) ?_
    refine .i (v := (.pointer (some ⟨bq, oq + k * 8 + 0, none⟩))) (sp_fieldO (hlc rfl) Try.underlying89 rfl sz9 rfl) ?_
    refine .i (v := (.string ((l[k]'hlt).repo))) (sp_loadQS kw (nin_old hltq lo_bo49_9 A1_22.ge) (hlc rfl) agg9 sz9 (hcq 0 (lbr rfl)) hltq) ?_
    refine .i (sp_move (hbs rfl e1)) ?_
    refine .i (sp_move (hbs rfl e10)) ?_
    refine .i (v := (.pointer (some ⟨bq, oq + k * 8, none⟩))) (sp_indexQ8 (i := k) evq (hlc rfl) (hlc rfl) Try.underlying84 sz89 hlt) ?_
    refine .i (v := (.pointer (some ⟨bq, oq + k * 8 + 1, none⟩))) (sp_fieldO (hlc rfl) Try.underlying89 rfl sz87 rfl) ?_
    refine .i (v := (.agg #[(.int .i64 ((l[k]'hlt).r.ln)), (.slice hqa (((l[k]'hlt).r.hs).length) hqc), (.int .u8 ((l[k]'hlt).r.cu.k)), (.int .i64 ((l[k]'hlt).r.cu.n)), (.string ((l[k]'hlt).r.cu.t)), (.slice nqa (((l[k]'hlt).r.cu.ns).length) nqc), (.slice xqa (((l[k]'hlt).r.cu.xs).length) xqc)])) (sp_loadQA (cs := [(.int .i64 ((l[k]'hlt).r.ln)), (.slice hqa (((l[k]'hlt).r.hs).length) hqc), (.int .u8 ((l[k]'hlt).r.cu.k)), (.int .i64 ((l[k]'hlt).r.cu.n)), (.string ((l[k]'hlt).r.cu.t)), (.slice nqa (((l[k]'hlt).r.cu.ns).length) nqc), (.slice xqa (((l[k]'hlt).r.cu.xs).length) xqc)]) kw (nin_old hltq lo_bo49_9 A1_22.ge) (hlc rfl) agg87 sz87 rfl rfl (cellsAt_drop (n := 1) hcq) hltq (.inr trivial)) ?_
    refine .callX3 (φ1 := Is (.pointer (some ⟨bo49_9, 0, none⟩))) (φ2 := Is (.string ((l[k]'hlt).repo))) (φ3 := Is (.agg #[(.int .i64 ((l[k]'hlt).r.ln)), (.slice hqa (((l[k]'hlt).r.hs).length) hqc), (.int .u8 ((l[k]'hlt).r.cu.k)), (.int .i64 ((l[k]'hlt).r.cu.n)), (.string ((l[k]'hlt).r.cu.t)), (.slice nqa (((l[k]'hlt).r.cu.ns).length) nqc), (.slice xqa (((l[k]'hlt).r.cu.xs).length) xqc)])) (φ := IsAddP 104 156 W25 w.heap.size (SF w (blks hds9_22 ++ (blks hd1_22 ++ (bo49_9 :: (b5_2 :: []))))) bo49_9 n L ((l[k]'hlt).repo) ((l[k]'hlt).r) hd1_22) ent55 (hlc rfl) (hlc rfl) (hlc rfl) st_addP (fun g u1 u2 u3 W hk hg h1 h2 h3 hP => by have h1 : u1 = _ := h1; subst u1; have h2 : u2 = _ := h2; subst u2; have h3 : u3 = _ := h3; subst u3; exact (AddP_ok u (n) (L) W (SA w S (blks hds9_22 ++ (blks hd1_22 ++ (bo49_9 :: (b5_2 :: []))))) _ _ _ _ bo49_9 hP.1 (row_inF hP.2 (fun b hb => by first | exact hb | (simp only [List.mem_cons, List.mem_append, List.not_mem_nil, or_false] at hb ⊢; rcases hb with h | h <;> simp [h]))) nb_bo49_9_ar19_22 (Nat.le_trans kw.size hk.size) sf_cln hw (okV_wt hok) ((l[k]'hlt).repo) hrq ((l[k]'hlt).r) (Nat.le_trans hfe.2.2 (by decide)) (Nat.le_trans hfe.2.1 (by decide)) (Nat.le_trans hu (Nat.le_trans kw.size hk.size)) (pin_sa hPin hu) (fun b hb o h => h.2.2 ((show ∀ b ∈ (bo49_9 :: (blks hd1_22 ++ [])), b ∈ (blks hds9_22 ++ (blks hd1_22 ++ (bo49_9 :: (b5_2 :: [])))) from (fun b hb => by first | exact hb | (simp only [List.mem_cons, List.mem_append, List.not_mem_nil, or_false] at hb ⊢; rcases hb with h | h <;> simp [h]))) b hb)) _ (avr_mk av_xq) ((rdRc_mk D_hq (rdV_in (x := (l[k]'hlt).r.cu) htq D_nq D_xq : Rd W25 (SA w S (blks hds9_22 ++ (blks hd1_22 ++ (bo49_9 :: (b5_2 :: []))))) (V.d ((l[k]'hlt).r.cu)) _) : Rd W25 (SA w S (blks hds9_22 ++ (blks hd1_22 ++ (bo49_9 :: (b5_2 :: []))))) (Rc.d ((l[k]'hlt).r)) _).keeps hk (sub_nv (fun b hb => by first | exact hb | (simp only [List.mem_cons, List.mem_append, List.not_mem_nil, or_false] at hb ⊢; rcases hb with h | h <;> simp [h]))))).mono fun e W' ⟨u, h1, h2, n, er, L2, h3, h4, h5⟩ => ⟨u, h1, h2, n, er, L2, h3, h4, W, hk.size, h5⟩) ?_
    refine .aftop (φ := IsAddP 104 156 W25 w.heap.size (SF w (blks hds9_22 ++ (blks hd1_22 ++ (bo49_9 :: (b5_2 :: []))))) bo49_9 n L ((l[k]'hlt).repo) ((l[k]'hlt).r) hd1_22) 11 st_addP (.step (k := 11) (j := 12) (.refl 11) (by decide) rfl rfl rfl (look_in (by simp [Op.operands]))) (by decide) rfl rfl rfl (sp_move (hlc rfl)) ?_
    refine .aftop (φ := IsUI) 11 st_ui (.step (k := 12) (j := 13) (.step (k := 11) (j := 12) (.refl 11) (by decide) rfl rfl rfl (look_in (by simp [Op.operands]))) (by decide) rfl rfl rfl (look_in (by simp [Op.operands]))) (by decide) rfl rfl rfl (sp_extA0 (hlc rfl)) ?_
    refine .aftop (φ := IsAddE 104 156 W25 w.heap.size (SF w (blks hds9_22 ++ (blks hd1_22 ++ (bo49_9 :: (b5_2 :: []))))) bo49_9 n L ((l[k]'hlt).repo) ((l[k]'hlt).r) hd1_22) 11 st_addE (.step (k := 12) (j := 14) (.step (k := 11) (j := 12) (.refl 11) (by decide) rfl rfl rfl (look_in (by simp [Op.operands]))) (by decide) rfl rfl rfl (look_in (by simp [Op.operands]))) (by decide) rfl rfl rfl (sp_extA1 (hlc rfl)) ?_
    refine .done ⟨by kernel_rfl, fun a28 g W28 y28 zz28 hk hg hV hR hP => ?_⟩
    obtain ⟨e73, e72, -, -, -, -, -, -, -, -, -, -, -, -, -, -⟩ := hV
    replace e1 := (hR 1 rfl).trans e1
    replace e5 := (hR 5 rfl).trans e5
    replace e7 := (hR 7 rfl).trans e7
    replace e9 := (hR 9 rfl).trans e9
    replace e10 := (hR 10 rfl).trans e10
    obtain ⟨nu72_28, e72⟩ := e72
    obtain ⟨nr_28, er_28, L2_28, e73, -, hao_28, hP⟩ := e73
    have hMlt : ∀ b ∈ (blks hds9_22 ++ (blks hd1_22 ++ (bo49_9 :: (b5_2 :: [])))), b < W25.heap.size := (in_app As9_22.lt (in_app A1_22.lt (in_cons own_bo49_9.lt (in_cons own_b5_2.lt in_nil))))
    obtain ⟨W1, hW1, v_28, hd_28, own_bo49_9, A_28, nb_28, hf_28⟩ := hP
    replace hf_28 : ∀ b ∈ blks hd_28, b ∈ blks hd1_22 ∨ W25.heap.size ≤ b := fun b hb => (hf_28 b hb).imp id (Nat.le_trans hW1)
    obtain ⟨v_28a, v_28n, v_28c, ev⟩ := arr_sl A_28; subst ev
    replace A_28 : Arr W28 w.heap.size 156 8 (SF w (blks hds9_22 ++ (blks hd_28 ++ (bo49_9 :: (b5_2 :: []))))) (List.map Vo.d (L2_28)) (.slice v_28a v_28n v_28c) hd_28 := row_outF A_28 (Nat.le_trans kw.size hW1) (fun b hb => Nat.lt_of_lt_of_le (hMlt b hb) hW1) (fun b hb => by simp only [List.mem_cons, List.mem_append, List.not_mem_nil, or_false] at hb ⊢; rcases hb with h | h | h | h <;> simp [h])
    replace D_v1 := sa_appL (M' := (blks hds9_22 ++ (blks hd_28 ++ (bo49_9 :: (b5_2 :: []))))) D_v1 hk (fun b hb => by first | exact hb | (simp only [List.mem_cons, List.mem_append, List.not_mem_nil, or_false] at hb ⊢; rcases hb with h | h <;> simp [h])) (rep_app rep_refl (rep_app hf_28 (rep_cons (rep_cons rep_nil))))
    replace D_p2_2 := sa_appL (M' := (blks hds9_22 ++ (blks hd_28 ++ (bo49_9 :: (b5_2 :: []))))) D_p2_2 hk (fun b hb => by first | exact hb | (simp only [List.mem_cons, List.mem_append, List.not_mem_nil, or_false] at hb ⊢; rcases hb with h | h <;> simp [h])) (rep_app rep_refl (rep_app hf_28 (rep_cons (rep_cons rep_nil))))
    replace D_p2_6 := sa_appL (M' := (blks hds9_22 ++ (blks hd_28 ++ (bo49_9 :: (b5_2 :: []))))) D_p2_6 hk (fun b hb => by first | exact hb | (simp only [List.mem_cons, List.mem_append, List.not_mem_nil, or_false] at hb ⊢; rcases hb with h | h <;> simp [h])) (rep_app rep_refl (rep_app hf_28 (rep_cons (rep_cons rep_nil))))
    replace D_p2_7 := sa_appL (M' := (blks hds9_22 ++ (blks hd_28 ++ (bo49_9 :: (b5_2 :: []))))) D_p2_7 hk (fun b hb => by first | exact hb | (simp only [List.mem_cons, List.mem_append, List.not_mem_nil, or_false] at hb ⊢; rcases hb with h | h <;> simp [h])) (rep_app rep_refl (rep_app hf_28 (rep_cons (rep_cons rep_nil))))
    replace D_hq := sa_appL (M' := (blks hds9_22 ++ (blks hd_28 ++ (bo49_9 :: (b5_2 :: []))))) D_hq hk (fun b hb => by first | exact hb | (simp only [List.mem_cons, List.mem_append, List.not_mem_nil, or_false] at hb ⊢; rcases hb with h | h <;> simp [h])) (rep_app rep_refl (rep_app hf_28 (rep_cons (rep_cons rep_nil))))
    replace D_nq := sa_appL (M' := (blks hds9_22 ++ (blks hd_28 ++ (bo49_9 :: (b5_2 :: []))))) D_nq hk (fun b hb => by first | exact hb | (simp only [List.mem_cons, List.mem_append, List.not_mem_nil, or_false] at hb ⊢; rcases hb with h | h <;> simp [h])) (rep_app rep_refl (rep_app hf_28 (rep_cons (rep_cons rep_nil))))
    replace D_xq := sa_appL (M' := (blks hds9_22 ++ (blks hd_28 ++ (bo49_9 :: (b5_2 :: []))))) D_xq hk (fun b hb => by first | exact hb | (simp only [List.mem_cons, List.mem_append, List.not_mem_nil, or_false] at hb ⊢; rcases hb with h | h <;> simp [h])) (rep_app rep_refl (rep_app hf_28 (rep_cons (rep_cons rep_nil))))
    have dj_ar21_28 : ∀ b ∈ blks hds9_22, b ∉ blks hd_28 := dj_new (dj_symm dj_ar19_ar21_22) As9_22.lt hf_28
    replace As9_22 := arrF_appL (M' := (blks hds9_22 ++ (blks hd_28 ++ (bo49_9 :: (b5_2 :: []))))) As9_22 hk (fun b hb => by first | exact hb | (simp only [List.mem_cons, List.mem_append, List.not_mem_nil, or_false] at hb ⊢; rcases hb with h | h <;> simp [h])) (rep_app rep_refl (rep_app hf_28 (rep_cons (rep_cons rep_nil)))) (fun b hb => nin_boxA (fun e => nb_bo49_9_ar21_22 (e ▸ hb)) ((dj_symm dj_ar19_ar21_22) b hb))
    have nb_b5_2_28 : b5_2 ∉ blks hd_28 := nb_new nb_b5_2_ar19_22 own_b5_2.lt hf_28
    replace own_b5_2 := own_appL own_b5_2 hk (nin_boxA ne_b5_2_bo49_9 nb_b5_2_ar19_22)
    replace own_bo49_9 : Own W28 bo49_9 [(.int .i64 (n)), (.slice v_28a v_28n v_28c)] 104 := own_bo49_9
    replace kw := keeps_L kw hk (in_cons (.inl lo_bo49_9) (in_app (fun b hb => .inl (A1_22.ge b hb)) in_nil))
    clear hR hk hg hMlt hW1 hf_28 A1_22
    refine tail_assign (v := (.int .i64 (nu72_28))) e72 (by rw [y28]; exact Nat.le_of_ble_eq_true rfl) (fun a29 y29 zz29 e11 hr => ?_)
    replace y29 := y29.trans y28; replace zz29 := zz29.trans zz28
    replace e1 := (hr 1 (by decide)).trans e1
    replace e5 := (hr 5 (by decide)).trans e5
    replace e7 := (hr 7 (by decide)).trans e7
    replace e9 := (hr 9 (by decide)).trans e9
    replace e10 := (hr 10 (by decide)).trans e10
    replace e72 := (hr 72 (by decide)).trans e72
    replace e73 := (hr 73 (by decide)).trans e73
    clear hr
    refine tail_assign (v := (.int .i64 (er_28))) e73 (by rw [y29]; exact Nat.le_of_ble_eq_true rfl) (fun a30 y30 zz30 e12 hr => ?_)
    replace y30 := y30.trans y29; replace zz30 := zz30.trans zz29
    replace e1 := (hr 1 (by decide)).trans e1
    replace e5 := (hr 5 (by decide)).trans e5
    replace e7 := (hr 7 (by decide)).trans e7
    replace e9 := (hr 9 (by decide)).trans e9
    replace e10 := (hr 10 (by decide)).trans e10
    replace e72 := (hr 72 (by decide)).trans e72
    replace e73 := (hr 73 (by decide)).trans e73
    replace e11 := (hr 11 (by decide)).trans e11
    clear hr
    refine tail_nil (hK27 _ _ ?_)
    refine wp_seq_k fun K31 hK31 => ?_
    refine wp_seq_k fun K32 hK32 => ?_
    refine rg mixed y30 zz30 ?_
    refine .i (sp_assign Has.cst) ?_
    refine .done ⟨by kernel_rfl, fun a33 g W33 y33 zz33 hk hg hV hR hP => ?_⟩
    obtain ⟨e13, -⟩ := hV
    replace e1 := (hR 1 rfl).trans e1
    replace e5 := (hR 5 rfl).trans e5
    replace e7 := (hR 7 rfl).trans e7
    replace e9 := (hR 9 rfl).trans e9
    replace e10 := (hR 10 rfl).trans e10
    replace e12 := (hR 12 rfl).trans e12
    replace A_28 := A_28.ext hk
    replace As9_22 := As9_22.ext hk
    replace D_v1 := D_v1.ext hk
    replace D_p2_2 := D_p2_2.ext hk
    replace D_p2_6 := D_p2_6.ext hk
    replace D_p2_7 := D_p2_7.ext hk
    replace D_hq := D_hq.ext hk
    replace D_nq := D_nq.ext hk
    replace D_xq := D_xq.ext hk
    have e13 : sl a33 13 = (.int .i64 (0)) := e13
    replace own_b5_2 := own_b5_2.ext hk
    replace own_bo49_9 := own_bo49_9.ext hk
    replace kw := kw.x hk
    clear hR hk hg hP
    refine tail_nil (hK32 _ _ ?_)
    refine wp_block ?_
    refine wp_for ((List.map Vo.repo L).length) (fun j a W => a.tmps.size = 196 ∧ a.defers = [] ∧ Keeps All w W ∧ sl a 1 = (.slice v1a (l.length) v1c) ∧ sl a 5 = (.pointer (some ⟨b5_2, 0, none⟩)) ∧ sl a 7 = (.pointer (some ⟨bo49_9, 0, none⟩)) ∧ sl a 9 = vs9_22 ∧ sl a 10 = (.int .i64 ((k : Nat))) ∧ sl a 12 = (.int .i64 (er_28)) ∧ sl a 13 = (.int .i64 ((j : Nat))) ∧ Own W b5_2 [(.string (m.repo)), (.int .i64 (m.r.ln)), (.slice p2_2a (m.r.hs.length) p2_2c), (.int .u8 (m.r.cu.k)), (.int .i64 (m.r.cu.n)), (.string (m.r.cu.t)), (.slice p2_6a (m.r.cu.ns.length) p2_6c), (.slice p2_7a (m.r.cu.xs.length) p2_7c)] 89 ∧ Own W bo49_9 [(.int .i64 (n)), (.slice v_28a v_28n v_28c)] 104 ∧ Rd W (SA w S (blks hds9_22 ++ (blks hd_28 ++ (bo49_9 :: (b5_2 :: []))))) (tosD (l)) (.slice v1a (l.length) v1c) ∧ Rd W (SA w S (blks hds9_22 ++ (blks hd_28 ++ (bo49_9 :: (b5_2 :: []))))) (hssD (m.r.hs)) (.slice p2_2a (m.r.hs.length) p2_2c) ∧ Rd W (SA w S (blks hds9_22 ++ (blks hd_28 ++ (bo49_9 :: (b5_2 :: []))))) (strsD (m.r.cu.ns)) (.slice p2_6a (m.r.cu.ns.length) p2_6c) ∧ Rd W (SA w S (blks hds9_22 ++ (blks hd_28 ++ (bo49_9 :: (b5_2 :: []))))) (valsD (m.r.cu.xs)) (.slice p2_7a (m.r.cu.xs.length) p2_7c) ∧ Rd W (SA w S (blks hds9_22 ++ (blks hd_28 ++ (bo49_9 :: (b5_2 :: []))))) (hssD ((l[k]'hlt).r.hs)) (.slice hqa (((l[k]'hlt).r.hs).length) hqc) ∧ Rd W (SA w S (blks hds9_22 ++ (blks hd_28 ++ (bo49_9 :: (b5_2 :: []))))) (strsD ((l[k]'hlt).r.cu.ns)) (.slice nqa (((l[k]'hlt).r.cu.ns).length) nqc) ∧ Rd W (SA w S (blks hds9_22 ++ (blks hd_28 ++ (bo49_9 :: (b5_2 :: []))))) (valsD ((l[k]'hlt).r.cu.xs)) (.slice xqa (((l[k]'hlt).r.cu.xs).length) xqc) ∧ Arr W w.heap.size 156 8 (SF w (blks hds9_22 ++ (blks hd_28 ++ (bo49_9 :: (b5_2 :: []))))) (List.map Vo.d (L2_28)) (.slice v_28a v_28n v_28c) hd_28 ∧ b5_2 ∉ blks hd_28 ∧ bo49_9 ∉ blks hd_28 ∧ Arr W w.heap.size 9 1 (SF w (blks hds9_22 ++ (blks hd_28 ++ (bo49_9 :: (b5_2 :: []))))) (List.map D.str (List.map Vo.repo L)) vs9_22 hds9_22 ∧ b5_2 ∉ blks hds9_22 ∧ bo49_9 ∉ blks hds9_22 ∧ (∀ b ∈ blks hd_28, b ∉ blks hds9_22)) ⟨y33, zz33, kw, e1, e5, e7, e9, e10, e12, (e13.trans (congrArg (Value.int .i64) (rfl))), own_b5_2, own_bo49_9, D_v1, D_p2_2, D_p2_6, D_p2_7, D_hq, D_nq, D_xq, A_28, nb_b5_2_28, nb_28, As9_22, nb_b5_2_ar21_22, nb_bo49_9_ar21_22, (dj_symm dj_ar21_28)⟩ ?_
    clear kw e1 e5 e7 e9 e10 e12 e13 own_b5_2 own_bo49_9 D_v1 D_p2_2 D_p2_6 D_p2_7 D_hq D_nq D_xq A_28 As9_22
    rintro j a34 W34 hkj ⟨y34, zz34, kw, e1, e5, e7, e9, e10, e12, e13, own_b5_2, own_bo49_9, D_v1, D_p2_2, D_p2_6, D_p2_7, D_hq, D_nq, D_xq, Af_ar19_34, nb_b5_2_ar19_34, nb_bo49_9_ar19_34, Af_ar21_34, nb_b5_2_ar21_34, nb_bo49_9_ar21_34, dj_ar19_ar21_34⟩
    refine wp_seq_k fun K35 hK35 => ?_
    refine wp_seq_k fun K36 hK36 => ?_
    refine rg mixed y34 zz34 ?_
    refine .i (sp_move (hbs rfl e13)) ?_
    refine .i (sp_move (hbs rfl e9)) ?_
    refine .i (sp_lenSs Try.underlying23 ((hlc rfl).dat (arr_rdU Af_ar21_34) sub_all)) ?_
    refine .i (sp_lss (hlc rfl) (hlc rfl)) ?_
    refine .done ⟨by kernel_rfl, fun a37 g W37 y37 zz37 hk hg hV hR hP => ?_⟩
    obtain ⟨e77, -, -, -, -⟩ := hV
    replace e1 := (hR 1 rfl).trans e1
    replace e5 := (hR 5 rfl).trans e5
    replace e7 := (hR 7 rfl).trans e7
    replace e9 := (hR 9 rfl).trans e9
    replace e10 := (hR 10 rfl).trans e10
    replace e12 := (hR 12 rfl).trans e12
    replace e13 := (hR 13 rfl).trans e13
    replace Af_ar19_34 := Af_ar19_34.ext hk
    replace Af_ar21_34 := Af_ar21_34.ext hk
    replace D_v1 := D_v1.ext hk
    replace D_p2_2 := D_p2_2.ext hk
    replace D_p2_6 := D_p2_6.ext hk
    replace D_p2_7 := D_p2_7.ext hk
    replace D_hq := D_hq.ext hk
    replace D_nq := D_nq.ext hk
    replace D_xq := D_xq.ext hk
    replace e77 := e77.q
    replace own_b5_2 := own_b5_2.ext hk
    replace own_bo49_9 := own_bo49_9.ext hk
    replace kw := kw.x hk
    clear hR hk hg hP
    refine tail_nil (hK36 _ _ ?_)
    refine wp_cond_split e77 (fun hc => ?_) (fun hc => ?_)
    ·
     have hltj : j < (List.map Vo.repo L).length := by simpa using hc
     have hlm : (List.map Vo.repo L).length ≤ 8 := by rw [List.length_map]; exact hL8
     refine wp_skip (hK35 _ _ ?_)
     refine wp_seq_k fun K38 hK38 => ?_
     refine wp_block ?_
     refine wp_seq_k fun K39 hK39 => ?_
     refine rg mixed y37 zz37 ?_
     refine .i (sp_move (hbs rfl e12)) ?_
     refine .i (sp_eql (hlc rfl) Has.cst) ?_
     refine .i (sp_move (hlc rfl)) ?_
     refine .e (t := 82) rfl (hlc rfl) (fun hg => sp_move (hbs rfl e9)) ?_
     refine .e (t := 82) rfl (hlc rfl) (fun hg => sp_move (hbs rfl e13)) ?_
     refine .opE (t := 82) (φ := IsR (AnyS) (D.str ((List.map Vo.repo L)[j]'hltj))) rfl (hlc rfl) (st_r sub_all) (fun hg => sp_indexS (i := j) (((hlc rfl).undE hg).dat (arr_rdU Af_ar21_34) sub_all) ((hlc rfl).undE hg) Try.underlying23 sz9 rfl hltj) ?_
     refine .e (t := 82) rfl (hlc rfl) (fun hg => sp_loadStr ((hlc rfl).undE hg) agg9 sz9) ?_
     refine .e (t := 82) rfl (hlc rfl) (fun hg => sp_move (hbs rfl e1)) ?_
     refine .e (t := 82) rfl (hlc rfl) (fun hg => sp_move (hbs rfl e10)) ?_
     refine .e (t := 82) (v := (.pointer (some ⟨bq, oq + k * 8, none⟩))) rfl (hlc rfl) (fun hg => sp_indexQ8 (i := k) evq ((hlc rfl).undE hg) ((hlc rfl).undE hg) Try.underlying84 sz89 hlt) ?_
     refine .e (t := 82) (v := (.pointer (some ⟨bq, oq + k * 8 + 0, none⟩))) rfl (hlc rfl) (fun hg => sp_fieldO ((hlc rfl).undE hg) Try.underlying89 rfl sz9 rfl) ?_
     refine .e (t := 82) (v := (.string ((l[k]'hlt).repo))) rfl (hlc rfl) (fun hg => sp_loadQS kw trivial ((hlc rfl).undE hg) agg9 sz9 (hcq 0 (lbr rfl)) hltq) ?_
     refine .e (t := 82) rfl (hlc rfl) (fun hg => sp_sEql ((hlc rfl).undE hg) ((hlc rfl).undE hg)) ?_
     refine .i (sp_and (hlc rfl) ((hlc rfl).weak fun hq => hq)) ?_
     refine .done ⟨by kernel_rfl, fun a40 g W40 y40 zz40 hk hg hV hR hP => ?_⟩
     obtain ⟨e93, -, -, -, -, -, -, -, -, -, -, -, -, -, -⟩ := hV
     replace e1 := (hR 1 rfl).trans e1
     replace e5 := (hR 5 rfl).trans e5
     replace e7 := (hR 7 rfl).trans e7
     replace e9 := (hR 9 rfl).trans e9
     replace e10 := (hR 10 rfl).trans e10
     replace e12 := (hR 12 rfl).trans e12
     replace e13 := (hR 13 rfl).trans e13
     replace Af_ar19_34 := Af_ar19_34.ext hk
     replace Af_ar21_34 := Af_ar21_34.ext hk
     replace D_v1 := D_v1.ext hk
     replace D_p2_2 := D_p2_2.ext hk
     replace D_p2_6 := D_p2_6.ext hk
     replace D_p2_7 := D_p2_7.ext hk
     replace D_hq := D_hq.ext hk
     replace D_nq := D_nq.ext hk
     replace D_xq := D_xq.ext hk
     replace e93 := e93.q
     replace own_b5_2 := own_b5_2.ext hk
     replace own_bo49_9 := own_bo49_9.ext hk
     replace kw := kw.x hk
     clear hR hk hg hP
     refine tail_nil (hK39 _ _ ?_)
     refine wp_cond_split e93 (fun hc => ?_) (fun hc => ?_)
     ·
      exfalso
      simp only [Bool.and_eq_true, beq_iff_eq, decide_eq_true_eq] at hc
      obtain ⟨hc1, hc2⟩ := hc
      have h0 := hao_28
      rw [hc1] at h0
      rw [List.getElem_map] at hc2
      exact (addO_new h0).1 _ (List.getElem_mem _) hc2
     ·
      refine wp_skip (hK38 _ _ ?_)
      refine rg mixed y40 zz40 ?_
      refine .i (sp_move (hbs rfl e13)) ?_
      refine .i (sp_add (hlc rfl) Has.cst (i64_in (by omega))) ?_
      refine .i (sp_assign (hlc rfl)) ?_
      refine .done ⟨by kernel_rfl, fun a41 g W41 y41 zz41 hk hg hV hR hP => ?_⟩
      obtain ⟨e13, -, -, -⟩ := hV
      replace e1 := (hR 1 rfl).trans e1
      replace e5 := (hR 5 rfl).trans e5
      replace e7 := (hR 7 rfl).trans e7
      replace e9 := (hR 9 rfl).trans e9
      replace e10 := (hR 10 rfl).trans e10
      replace e12 := (hR 12 rfl).trans e12
      replace Af_ar19_34 := Af_ar19_34.ext hk
      replace Af_ar21_34 := Af_ar21_34.ext hk
      replace D_v1 := D_v1.ext hk
      replace D_p2_2 := D_p2_2.ext hk
      replace D_p2_6 := D_p2_6.ext hk
      replace D_p2_7 := D_p2_7.ext hk
      replace D_hq := D_hq.ext hk
      replace D_nq := D_nq.ext hk
      replace D_xq := D_xq.ext hk
      replace e13 := e13.q
      replace own_b5_2 := own_b5_2.ext hk
      replace own_bo49_9 := own_bo49_9.ext hk
      replace kw := kw.x hk
      clear hR hk hg hP
      exact tail_nil ⟨hltj, y41, zz41, kw, e1, e5, e7, e9, e10, e12, (e13.trans (congrArg (Value.int .i64) (by simp))), own_b5_2, own_bo49_9, D_v1, D_p2_2, D_p2_6, D_p2_7, D_hq, D_nq, D_xq, Af_ar19_34, nb_b5_2_ar19_34, nb_bo49_9_ar19_34, Af_ar21_34, nb_b5_2_ar21_34, nb_bo49_9_ar21_34, dj_ar19_ar21_34⟩
    ·
     refine wp_exit (hK31 _ _ ?_)
     refine wp_seq_k fun K42 hK42 => ?_
     refine rg mixed y37 zz37 ?_
     refine .i (sp_move (hbs rfl e12)) ?_
     refine .i (sp_eql (hlc rfl) Has.cst) ?_
     refine .done ⟨by kernel_rfl, fun a43 g W43 y43 zz43 hk hg hV hR hP => ?_⟩
     obtain ⟨e95, -, -⟩ := hV
     replace e1 := (hR 1 rfl).trans e1
     replace e5 := (hR 5 rfl).trans e5
     replace e7 := (hR 7 rfl).trans e7
     replace e9 := (hR 9 rfl).trans e9
     replace e10 := (hR 10 rfl).trans e10
     replace Af_ar19_34 := Af_ar19_34.ext hk
     replace Af_ar21_34 := Af_ar21_34.ext hk
     replace D_v1 := D_v1.ext hk
     replace D_p2_2 := D_p2_2.ext hk
     replace D_p2_6 := D_p2_6.ext hk
     replace D_p2_7 := D_p2_7.ext hk
     replace D_hq := D_hq.ext hk
     replace D_nq := D_nq.ext hk
     replace D_xq := D_xq.ext hk
     have e95 : sl a43 95 = (.bool ((er_28 : Int) == (0 : Int))) := e95
     replace own_b5_2 := own_b5_2.ext hk
     replace own_bo49_9 := own_bo49_9.ext hk
     replace kw := kw.x hk
     clear hR hk hg hP
     refine tail_nil (hK42 _ _ ?_)
     refine wp_cond_split e95 (fun hc => ?_) (fun hc => ?_)
     ·
      have hc0 : er_28 = 0 := by simpa using hc
      have h0 := hao_28
      rw [hc0] at h0
      have hm2 := (addO_new h0).2.symm
      have hok2 := addO_ok hao_28 hok (Nat.le_trans hfe.2.2 (by decide)) (Nat.le_trans hfe.2.1 (by decide))
      have hL82 := addO_len hao_28 hL8
      refine wp_reg (fun k => k ∉ blks hds9_22) (Ψ := fun W => Arr W w.heap.size 9 1 (SF w (blks hds9_22 ++ (blks hd_28 ++ (bo49_9 :: (b5_2 :: []))))) (List.map D.str (List.map Vo.repo L)) vs9_22 hds9_22) mixed y43 zz43 (fun W W' k h => h.ext k) Af_ar21_34 ?_
      refine .i (sp_move (hbs rfl e9)) ?_
      refine .i (sp_move (hbs rfl e1)) ?_
      refine .i (sp_move (hbs rfl e10)) ?_
      refine .i (v := (.pointer (some ⟨bq, oq + k * 8, none⟩))) (sp_indexQ8 (i := k) evq (hlc rfl) (hlc rfl) Try.underlying84 sz89 hlt) ?_
      refine .i (v := (.pointer (some ⟨bq, oq + k * 8 + 0, none⟩))) (sp_fieldO (hlc rfl) Try.underlying89 rfl sz9 rfl) ?_
      refine .i (v := (.string ((l[k]'hlt).repo))) (sp_loadQS kw (nin_oldA hltq Af_ar21_34.ge) (hlc rfl) agg9 sz9 (hcq 0 (lbr rfl)) hltq) ?_
      refine .op (φ := IsD (SF w (blks hds9_22 ++ (blks hd_28 ++ (bo49_9 :: (b5_2 :: []))))) (strsD ([(l[k]'hlt).repo]))) (st_d (sub_nbF (fun b hb => List.mem_append_left _ hb))) (sp_bsl (ds := [D.str ((l[k]'hlt).repo)]) Try.underlying23 sz9 z9 (lbr rfl) (lbr rfl) ⟨rfl, ((hlc rfl).str hrq), trivial⟩ rfl (by simp [width]) (fr_sf kw (in_app Af_ar21_34.lt (in_app Af_ar19_34.lt (in_cons own_bo49_9.lt (in_cons own_b5_2.lt in_nil)))))) ?_
      refine .appB (ds := List.map D.str (List.map Vo.repo L)) (es := [D.str ((l[k]'hlt).repo)]) (X := SF w (blks hds9_22 ++ (blks hd_28 ++ (bo49_9 :: (b5_2 :: []))))) Try.underlying23 inf9 (lbr rfl) (hlc rfl) (hlc rfl) (sub_nbF (fun b hb => List.mem_append_left _ hb)) (by simp [maxLen]; omega) (by simp; omega) kw.size ?_
      refine .done ⟨by kernel_rfl, fun a44 g W44 y44 zz44 hk hg hV hR hP => ?_⟩
      obtain ⟨e103, -, -, -, -, -, -, -, -⟩ := hV
      replace e1 := (hR 1 rfl).trans e1
      replace e5 := (hR 5 rfl).trans e5
      replace e7 := (hR 7 rfl).trans e7
      replace e9 := (hR 9 rfl).trans e9
      replace e10 := (hR 10 rfl).trans e10
      obtain ⟨v103_44, ev⟩ : ∃ v, sl a44 103 = v := ⟨_, rfl⟩
      rw [ev] at e103
      obtain ⟨hd103_44, A_103_44, hf103_44⟩ := e103
      have e103 := ev; clear ev
      obtain ⟨v103_44a, v103_44n, v103_44c, ev⟩ := arr_sl A_103_44; subst ev
      replace A_103_44 := arrF_new (M' := (blks hd103_44 ++ (blks hd_28 ++ (bo49_9 :: (b5_2 :: []))))) A_103_44 (rep_app (rep_q fun _ h => h) (rep_app rep_refl (rep_cons (rep_cons rep_nil))))
      replace A_103_44 : Arr W44 w.heap.size 9 1 (SF w (blks hd103_44 ++ (blks hd_28 ++ (bo49_9 :: (b5_2 :: []))))) (List.map D.str ((List.map Vo.repo L) ++ [(l[k]'hlt).repo])) (.slice v103_44a v103_44n v103_44c) hd103_44 := by first | exact A_103_44 | (rw [List.map_append]; exact A_103_44)
      have nb_b5_2_44 : b5_2 ∉ blks hd103_44 := nb_new nb_b5_2_ar21_34 own_b5_2.lt hf103_44
      have nb_bo49_9_44 : bo49_9 ∉ blks hd103_44 := nb_new nb_bo49_9_ar21_34 own_bo49_9.lt hf103_44
      have dj_ar19_44 : ∀ b ∈ blks hd_28, b ∉ blks hd103_44 := dj_new dj_ar19_ar21_34 Af_ar19_34.lt hf103_44
      replace Af_ar19_34 := arrF_app (M' := (blks hd103_44 ++ (blks hd_28 ++ (bo49_9 :: (b5_2 :: []))))) Af_ar19_34 hk (fun b hb => List.mem_append_left _ hb) (rep_app hf103_44 (rep_app rep_refl (rep_cons (rep_cons rep_nil)))) dj_ar19_ar21_34
      replace D_v1 := sa_app (M' := (blks hd103_44 ++ (blks hd_28 ++ (bo49_9 :: (b5_2 :: []))))) D_v1 hk (fun b hb => List.mem_append_left _ hb) (rep_app hf103_44 (rep_app rep_refl (rep_cons (rep_cons rep_nil))))
      replace D_p2_2 := sa_app (M' := (blks hd103_44 ++ (blks hd_28 ++ (bo49_9 :: (b5_2 :: []))))) D_p2_2 hk (fun b hb => List.mem_append_left _ hb) (rep_app hf103_44 (rep_app rep_refl (rep_cons (rep_cons rep_nil))))
      replace D_p2_6 := sa_app (M' := (blks hd103_44 ++ (blks hd_28 ++ (bo49_9 :: (b5_2 :: []))))) D_p2_6 hk (fun b hb => List.mem_append_left _ hb) (rep_app hf103_44 (rep_app rep_refl (rep_cons (rep_cons rep_nil))))
      replace D_p2_7 := sa_app (M' := (blks hd103_44 ++ (blks hd_28 ++ (bo49_9 :: (b5_2 :: []))))) D_p2_7 hk (fun b hb => List.mem_append_left _ hb) (rep_app hf103_44 (rep_app rep_refl (rep_cons (rep_cons rep_nil))))
      replace D_hq := sa_app (M' := (blks hd103_44 ++ (blks hd_28 ++ (bo49_9 :: (b5_2 :: []))))) D_hq hk (fun b hb => List.mem_append_left _ hb) (rep_app hf103_44 (rep_app rep_refl (rep_cons (rep_cons rep_nil))))
      replace D_nq := sa_app (M' := (blks hd103_44 ++ (blks hd_28 ++ (bo49_9 :: (b5_2 :: []))))) D_nq hk (fun b hb => List.mem_append_left _ hb) (rep_app hf103_44 (rep_app rep_refl (rep_cons (rep_cons rep_nil))))
      replace D_xq := sa_app (M' := (blks hd103_44 ++ (blks hd_28 ++ (bo49_9 :: (b5_2 :: []))))) D_xq hk (fun b hb => List.mem_append_left _ hb) (rep_app hf103_44 (rep_app rep_refl (rep_cons (rep_cons rep_nil))))
      replace own_b5_2 := own_app own_b5_2 hk nb_b5_2_ar21_34
      replace own_bo49_9 := own_app own_bo49_9 hk nb_bo49_9_ar21_34
      replace kw := keeps_app kw hk Af_ar21_34.ge
      clear hR hk hg hP hf103_44 Af_ar21_34
      refine tail_assign (v := (.slice v103_44a v103_44n v103_44c)) e103 (by rw [y44]; exact Nat.le_of_ble_eq_true rfl) (fun a45 y45 zz45 e9 hr => ?_)
      replace y45 := y45.trans y44; replace zz45 := zz45.trans zz44
      replace e1 := (hr 1 (by decide)).trans e1
      replace e5 := (hr 5 (by decide)).trans e5
      replace e7 := (hr 7 (by decide)).trans e7
      replace e10 := (hr 10 (by decide)).trans e10
      replace e103 := (hr 103 (by decide)).trans e103
      clear hr
      refine tail_nil (hK26 _ _ ?_)
      refine rg mixed y45 zz45 ?_
      refine .i (sp_move (hbs rfl e10)) ?_
      refine .i (sp_add (hlc rfl) Has.cst (i64_in (by omega))) ?_
      refine .i (sp_assign (hlc rfl)) ?_
      refine .done ⟨by kernel_rfl, fun a46 g W46 y46 zz46 hk hg hV hR hP => ?_⟩
      obtain ⟨e10, -, -, -⟩ := hV
      replace e1 := (hR 1 rfl).trans e1
      replace e5 := (hR 5 rfl).trans e5
      replace e7 := (hR 7 rfl).trans e7
      replace e9 := (hR 9 rfl).trans e9
      replace Af_ar19_34 := Af_ar19_34.ext hk
      replace A_103_44 := A_103_44.ext hk
      replace D_v1 := D_v1.ext hk
      replace D_p2_2 := D_p2_2.ext hk
      replace D_p2_6 := D_p2_6.ext hk
      replace D_p2_7 := D_p2_7.ext hk
      replace D_hq := D_hq.ext hk
      replace D_nq := D_nq.ext hk
      replace D_xq := D_xq.ext hk
      replace e10 := e10.q
      replace own_b5_2 := own_b5_2.ext hk
      replace own_bo49_9 := own_bo49_9.ext hk
      replace kw := kw.x hk
      clear hR hk hg hP
      rw [show (List.map Vo.repo L) ++ [(l[k]'hlt).repo] = List.map Vo.repo L2_28 from hm2] at A_103_44
      exact tail_nil ⟨hlt, L2_28, (.slice v_28a v_28n v_28c), hd_28, (.slice v103_44a v103_44n v103_44c), hd103_44, y46, zz46, kw, e1, e5, e7, e9, (e10.trans (congrArg (Value.int .i64) (by simp))), own_b5_2, own_bo49_9, D_v1, D_p2_2, D_p2_6, D_p2_7, Af_ar19_34, nb_b5_2_ar19_34, nb_bo49_9_ar19_34, A_103_44, nb_b5_2_44, nb_bo49_9_44, dj_ar19_44, hok2, hL82⟩
     ·
      have hc0 : er_28 ≠ 0 := by simpa using hc
      have hm2 : L = L2_28 := (addO_old hao_28 hc0).symm
      have hok2 := addO_ok hao_28 hok (Nat.le_trans hfe.2.2 (by decide)) (Nat.le_trans hfe.2.1 (by decide))
      have hL82 := addO_len hao_28 hL8
      refine wp_skip (hK26 _ _ ?_)
      refine rg mixed y43 zz43 ?_
      refine .i (sp_move (hbs rfl e10)) ?_
      refine .i (sp_add (hlc rfl) Has.cst (i64_in (by omega))) ?_
      refine .i (sp_assign (hlc rfl)) ?_
      refine .done ⟨by kernel_rfl, fun a47 g W47 y47 zz47 hk hg hV hR hP => ?_⟩
      obtain ⟨e10, -, -, -⟩ := hV
      replace e1 := (hR 1 rfl).trans e1
      replace e5 := (hR 5 rfl).trans e5
      replace e7 := (hR 7 rfl).trans e7
      replace e9 := (hR 9 rfl).trans e9
      replace Af_ar19_34 := Af_ar19_34.ext hk
      replace Af_ar21_34 := Af_ar21_34.ext hk
      replace D_v1 := D_v1.ext hk
      replace D_p2_2 := D_p2_2.ext hk
      replace D_p2_6 := D_p2_6.ext hk
      replace D_p2_7 := D_p2_7.ext hk
      replace D_hq := D_hq.ext hk
      replace D_nq := D_nq.ext hk
      replace D_xq := D_xq.ext hk
      replace e10 := e10.q
      replace own_b5_2 := own_b5_2.ext hk
      replace own_bo49_9 := own_bo49_9.ext hk
      replace kw := kw.x hk
      clear hR hk hg hP
      rw [show List.map Vo.repo L = List.map Vo.repo L2_28 by rw [hm2]] at Af_ar21_34
      exact tail_nil ⟨hlt, L2_28, (.slice v_28a v_28n v_28c), hd_28, vs9_22, hds9_22, y47, zz47, kw, e1, e5, e7, e9, (e10.trans (congrArg (Value.int .i64) (by simp))), own_b5_2, own_bo49_9, D_v1, D_p2_2, D_p2_6, D_p2_7, Af_ar19_34, nb_b5_2_ar19_34, nb_bo49_9_ar19_34, Af_ar21_34, nb_b5_2_ar21_34, nb_bo49_9_ar21_34, dj_ar19_ar21_34, hok2, hL82⟩
   ·
    have hge0 : ¬ k < l.length := by simpa using hc
    have hge : k = l.length := by omega
    refine wp_exit (hK17 _ _ ?_)
    refine wp_seq_k fun K48 hK48 => ?_
    refine rg mixed y25 zz25 ?_
    refine .i (sp_move (hbs rfl e7)) ?_
    refine .op (φ := IsT3 (IsD (Fr W25) (Rc.d (wonR n L))) (Is (.string (wonS n L))) (Is (.bool (wonB n L)))) (st_t3 (st_d sub_all) (st_is _) (st_is _)) (sp_call1 (φ1 := Is (.pointer (some ⟨bo49_9, 0, none⟩))) ent56 (hlc rfl) (fun g u1 W hk hgk h1 => by have h1 : u1 = _ := h1; subst u1; exact (Won_ok (n) (L) W _ _ _ (own_bo49_9.ext hk) hw (okV_wt hok) (okV_hs hok) clnS_cln (arr_rdC (A1_22.ext hk) sf_cln)).mono (fun _ _ ⟨v, h1, h2, r1, h3, h4⟩ => ⟨v, h1, h2, r1, _, _, h3, fresh_d hk hgk h4, rfl, rfl⟩))) ?_
    refine .op (φ := IsT3 (IsD (Fr W25) (Rc.d (wonR n L))) (Is (.string (wonS n L))) (Is (.bool (wonB n L)))) (st_t3 (st_d sub_all) (st_is _) (st_is _)) (sp_move (hlc rfl)) ?_
    refine .da (X := Fr W25) (e := Rc.d (wonR n L)) (sp_ext30 (hlc rfl)) ?_
    refine .i (v := (.string (wonS n L))) (sp_ext31 (hlc rfl)) ?_
    refine .i (v := (.bool (wonB n L))) (sp_ext32 (hlc rfl)) ?_
    refine .alloc z87 ?_
    refine .done ⟨by kernel_rfl, fun a49 g W49 y49 zz49 hk hg hV hR hP => ?_⟩
    obtain ⟨⟨b14_49, e14, hb14, own_b14_49⟩, e109, e108, e107, -, -, -, -⟩ := hV
    have lo_b14_49 : w.heap.size ≤ b14_49 := Nat.le_trans kw.size (hg.lo _ _ hb14)
    have ne_b5_2_b14_49 : b5_2 ≠ b14_49 := Nat.ne_of_lt (Nat.lt_of_lt_of_le own_b5_2.lt (hg.lo _ _ hb14))
    have ne_bo49_9_b14_49 : bo49_9 ≠ b14_49 := Nat.ne_of_lt (Nat.lt_of_lt_of_le own_bo49_9.lt (hg.lo _ _ hb14))
    have own_b14_49 : Own W49 b14_49 [(.int .i64 (0)), (.slice none 0 0), (.int .u8 (0)), (.int .i64 (0)), (.string (⟨#[]⟩)), (.slice none 0 0), (.slice none 0 0)] 87 := own_b14_49
    replace e5 := (hR 5 rfl).trans e5
    replace e7 := (hR 7 rfl).trans e7
    replace e9 := (hR 9 rfl).trans e9
    have hMx : ∀ b ∈ (blks hds9_22 ++ (blks hd1_22 ++ (bo49_9 :: (b5_2 :: [])))), b < W25.heap.size := (in_app As9_22.lt (in_app A1_22.lt (in_cons own_bo49_9.lt (in_cons own_b5_2.lt in_nil))))
    have nb_b14_49_ar19 : b14_49 ∉ blks hd1_22 := nb_lt A1_22.lt (hg.lo _ _ hb14)
    replace A1_22 : Arr W49 w.heap.size 156 8 (SF w (b14_49 :: (blks hds9_22 ++ (blks hd1_22 ++ (bo49_9 :: (b5_2 :: [])))))) (List.map Vo.d (L)) va1_22 hd1_22 := arrF_more A1_22 hk [b14_49] (in_cons (hg.lo _ _ hb14) in_nil)
    have nb_b14_49_ar21 : b14_49 ∉ blks hds9_22 := nb_lt As9_22.lt (hg.lo _ _ hb14)
    replace As9_22 : Arr W49 w.heap.size 9 1 (SF w (b14_49 :: (blks hds9_22 ++ (blks hd1_22 ++ (bo49_9 :: (b5_2 :: [])))))) (List.map D.str (List.map Vo.repo L)) vs9_22 hds9_22 := arrF_more As9_22 hk [b14_49] (in_cons (hg.lo _ _ hb14) in_nil)
    replace D_v1 : Rd W49 (SA w S (b14_49 :: (blks hds9_22 ++ (blks hd1_22 ++ (bo49_9 :: (b5_2 :: [])))))) (tosD (l)) (.slice v1a (l.length) v1c) := sa_more D_v1 hk [b14_49] (in_cons (hg.lo _ _ hb14) in_nil)
    replace D_p2_2 : Rd W49 (SA w S (b14_49 :: (blks hds9_22 ++ (blks hd1_22 ++ (bo49_9 :: (b5_2 :: [])))))) (hssD (m.r.hs)) (.slice p2_2a (m.r.hs.length) p2_2c) := sa_more D_p2_2 hk [b14_49] (in_cons (hg.lo _ _ hb14) in_nil)
    replace D_p2_6 : Rd W49 (SA w S (b14_49 :: (blks hds9_22 ++ (blks hd1_22 ++ (bo49_9 :: (b5_2 :: [])))))) (strsD (m.r.cu.ns)) (.slice p2_6a (m.r.cu.ns.length) p2_6c) := sa_more D_p2_6 hk [b14_49] (in_cons (hg.lo _ _ hb14) in_nil)
    replace D_p2_7 : Rd W49 (SA w S (b14_49 :: (blks hds9_22 ++ (blks hd1_22 ++ (bo49_9 :: (b5_2 :: [])))))) (valsD (m.r.cu.xs)) (.slice p2_7a (m.r.cu.xs.length) p2_7c) := sa_more D_p2_7 hk [b14_49] (in_cons (hg.lo _ _ hb14) in_nil)
    obtain ⟨v107_49, ev⟩ : ∃ v, sl a49 107 = v := ⟨_, rfl⟩
    rw [ev] at e107
    have D_v107_49 : Rd W49 (SF w (b14_49 :: (blks hds9_22 ++ (blks hd1_22 ++ (bo49_9 :: (b5_2 :: [])))))) (Rc.d (wonR n L)) v107_49 := fr_end (M := (blks hds9_22 ++ (blks hd1_22 ++ (bo49_9 :: (b5_2 :: []))))) e107 kw [b14_49] (in_cons ⟨_, hb14⟩ in_nil) hMx
    replace e107 := ev; clear ev
    obtain ⟨v107_49_1a, v107_49_1c, v107_49_5a, v107_49_5c, v107_49_6a, v107_49_6c, ev, hb_v107_49_4, D_v107_49_1, D_v107_49_5, D_v107_49_6⟩ := rdRc_out D_v107_49
    subst ev; clear D_v107_49
    have e108 : sl a49 108 = (.string (wonS n L)) := e108
    have e109 : sl a49 109 = (.bool (wonB n L)) := e109
    replace own_b5_2 := own_b5_2.ext hk
    replace own_bo49_9 := own_bo49_9.ext hk
    replace kw := kw.x hk
    clear hR hk hg hP hb14
    refine tail_store (b := b14_49) (o := 0) (v := (.agg #[(.int .i64 ((wonR n L).ln)), (.slice v107_49_1a (((wonR n L).hs).length) v107_49_1c), (.int .u8 ((wonR n L).cu.k)), (.int .i64 ((wonR n L).cu.n)), (.string ((wonR n L).cu.t)), (.slice v107_49_5a (((wonR n L).cu.ns).length) v107_49_5c), (.slice v107_49_6a (((wonR n L).cu.xs).length) v107_49_6c)])) e14 e107 sz87 rfl own_b14_49 (lbr rfl) (all_cons rfl (all_cons rfl (all_cons rfl (all_cons rfl (all_cons rfl (all_cons rfl (all_cons rfl all_nil))))))) (fun W50 hs own_b14_49 => ?_)
    have own_b14_49 : Own W50 b14_49 [(.int .i64 ((wonR n L).ln)), (.slice v107_49_1a (((wonR n L).hs).length) v107_49_1c), (.int .u8 ((wonR n L).cu.k)), (.int .i64 ((wonR n L).cu.n)), (.string ((wonR n L).cu.t)), (.slice v107_49_5a (((wonR n L).cu.ns).length) v107_49_5c), (.slice v107_49_6a (((wonR n L).cu.xs).length) v107_49_6c)] 87 := own_b14_49
    replace own_b5_2 := own_store own_b5_2 hs ne_b5_2_b14_49
    replace own_bo49_9 := own_store own_bo49_9 hs ne_bo49_9_b14_49
    replace D_v1 := sa_store D_v1 hs (by simp)
    replace D_p2_2 := sa_store D_p2_2 hs (by simp)
    replace D_p2_6 := sa_store D_p2_6 hs (by simp)
    replace D_p2_7 := sa_store D_p2_7 hs (by simp)
    replace D_v107_49_1 := sf_store D_v107_49_1 hs (by simp)
    replace D_v107_49_5 := sf_store D_v107_49_5 hs (by simp)
    replace D_v107_49_6 := sf_store D_v107_49_6 hs (by simp)
    replace A1_22 := arrF_store A1_22 hs (by simp) nb_b14_49_ar19
    replace As9_22 := arrF_store As9_22 hs (by simp) nb_b14_49_ar21
    replace kw := keeps_store kw hs lo_b14_49
    clear hs
    refine tail_assign (v := (.string (wonS n L))) e108 (by rw [y49]; exact Nat.le_of_ble_eq_true rfl) (fun a51 y51 zz51 e15 hr => ?_)
    replace y51 := y51.trans y49; replace zz51 := zz51.trans zz49
    replace e5 := (hr 5 (by decide)).trans e5
    replace e7 := (hr 7 (by decide)).trans e7
    replace e9 := (hr 9 (by decide)).trans e9
    replace e14 := (hr 14 (by decide)).trans e14
    replace e107 := (hr 107 (by decide)).trans e107
    replace e108 := (hr 108 (by decide)).trans e108
    replace e109 := (hr 109 (by decide)).trans e109
    clear hr
    refine tail_assign (v := (.bool (wonB n L))) e109 (by rw [y51]; exact Nat.le_of_ble_eq_true rfl) (fun a52 y52 zz52 e16 hr => ?_)
    replace y52 := y52.trans y51; replace zz52 := zz52.trans zz51
    replace e5 := (hr 5 (by decide)).trans e5
    replace e7 := (hr 7 (by decide)).trans e7
    replace e9 := (hr 9 (by decide)).trans e9
    replace e14 := (hr 14 (by decide)).trans e14
    replace e107 := (hr 107 (by decide)).trans e107
    replace e108 := (hr 108 (by decide)).trans e108
    replace e109 := (hr 109 (by decide)).trans e109
    replace e15 := (hr 15 (by decide)).trans e15
    clear hr
    refine tail_nil (hK48 _ _ ?_)
    refine wp_seq_k fun K53 hK53 => ?_
    refine rg mixed y52 zz52 ?_
    refine .i (sp_move (hbs rfl e7)) ?_
    refine .i (v := (.int .i64 ((L).length))) (sp_call1 (φ1 := Is (.pointer (some ⟨bo49_9, 0, none⟩))) ent57 (hlc rfl) (fun g u1 W hk hgk h1 => by have h1 : u1 = _ := h1; subst u1; exact Len_ok (n) (L) W _ _ _ (own_bo49_9.ext hk) hw (arr_rdC (A1_22.ext hk) sf_cln))) ?_
    refine .i (sp_move (hbs rfl e7)) ?_
    refine .i (v := (.int .i64 (((mostV (L) (L) 0 : Nat) : Int)))) (sp_call1 (φ1 := Is (.pointer (some ⟨bo49_9, 0, none⟩))) ent58 (hlc rfl) (fun g u1 W hk hgk h1 => by have h1 : u1 = _ := h1; subst u1; exact Most_ok (n) (L) W _ _ _ (own_bo49_9.ext hk) hw (okV_wt hok) clnS_cln (arr_rdC (A1_22.ext hk) sf_cln))) ?_
    refine .i (sp_assign (hlc rfl)) ?_
    refine .i (sp_assign (hlc rfl)) ?_
    refine .done ⟨by kernel_rfl, fun a54 g W54 y54 zz54 hk hg hV hR hP => ?_⟩
    obtain ⟨e18, e17, -, -, -, -, -⟩ := hV
    replace e5 := (hR 5 rfl).trans e5
    replace e7 := (hR 7 rfl).trans e7
    replace e9 := (hR 9 rfl).trans e9
    replace e14 := (hR 14 rfl).trans e14
    replace e15 := (hR 15 rfl).trans e15
    replace e16 := (hR 16 rfl).trans e16
    replace A1_22 := A1_22.ext hk
    replace As9_22 := As9_22.ext hk
    replace D_v1 := D_v1.ext hk
    replace D_p2_2 := D_p2_2.ext hk
    replace D_p2_6 := D_p2_6.ext hk
    replace D_p2_7 := D_p2_7.ext hk
    replace D_v107_49_1 := D_v107_49_1.ext hk
    replace D_v107_49_5 := D_v107_49_5.ext hk
    replace D_v107_49_6 := D_v107_49_6.ext hk
    have e17 : sl a54 17 = (.int .i64 ((L).length)) := e17
    replace e18 := e18.q
    replace own_b5_2 := own_b5_2.ext hk
    replace own_bo49_9 := own_bo49_9.ext hk
    replace own_b14_49 := own_b14_49.ext hk
    replace kw := kw.x hk
    clear hR hk hg hP
    refine tail_nil (hK53 _ _ ?_)
    refine wp_seq_k fun K55 hK55 => ?_
    have hfm := few_el hfm0 m (by simp)
    refine wp_reg (fun k => k ∉ (bo49_9 :: (blks hd1_22 ++ []))) (Ψ := fun W => Own W bo49_9 [(.int .i64 (n)), va1_22] 104 ∧ Arr W w.heap.size 156 8 (SF w (b14_49 :: (blks hds9_22 ++ (blks hd1_22 ++ (bo49_9 :: (b5_2 :: [])))))) (List.map Vo.d (L)) va1_22 hd1_22) mixed y54 zz54 stE_boxR ⟨own_bo49_9, A1_22⟩ ?_
    refine .i (sp_move (hbs rfl e7)) ?_
    refine .i (fo 0 (hbs rfl e5) Try.underlying89 rfl sz9 rfl) ?_
    refine .i (lo1 (hlc rfl) own_b5_2 (nin_boxA ne_b5_2_bo49_9 nb_b5_2_ar19_22) agg9 sz9 rfl) ?_
    refine .i (fo 1 (hbs rfl e5) Try.underlying89 rfl sz87 rfl) ?_
    refine .i (v := (.agg #[(.int .i64 (m.r.ln)), (.slice p2_2a (m.r.hs.length) p2_2c), (.int .u8 (m.r.cu.k)), (.int .i64 (m.r.cu.n)), (.string (m.r.cu.t)), (.slice p2_6a (m.r.cu.ns.length) p2_6c), (.slice p2_7a (m.r.cu.xs.length) p2_7c)])) (loA (hlc rfl) own_b5_2 (nin_boxA ne_b5_2_bo49_9 nb_b5_2_ar19_22) agg87 sz87 rfl rfl) ?_
    refine .callX3 (φ1 := Is (.pointer (some ⟨bo49_9, 0, none⟩))) (φ2 := Is (.string (m.repo))) (φ3 := Is (.agg #[(.int .i64 (m.r.ln)), (.slice p2_2a (m.r.hs.length) p2_2c), (.int .u8 (m.r.cu.k)), (.int .i64 (m.r.cu.n)), (.string (m.r.cu.t)), (.slice p2_6a (m.r.cu.ns.length) p2_6c), (.slice p2_7a (m.r.cu.xs.length) p2_7c)])) (φ := IsAddP 104 156 W54 w.heap.size (SF w (b14_49 :: (blks hds9_22 ++ (blks hd1_22 ++ (bo49_9 :: (b5_2 :: [])))))) bo49_9 n L m.repo m.r hd1_22) ent55 (hlc rfl) (hlc rfl) (hlc rfl) st_addP (fun g u1 u2 u3 W hk hg h1 h2 h3 hP => by have h1 : u1 = _ := h1; subst u1; have h2 : u2 = _ := h2; subst u2; have h3 : u3 = _ := h3; subst u3; exact (AddP_ok u (n) (L) W (SA w S (b14_49 :: (blks hds9_22 ++ (blks hd1_22 ++ (bo49_9 :: (b5_2 :: [])))))) _ _ _ _ bo49_9 hP.1 (row_inF hP.2 (fun b hb => by first | exact hb | (simp only [List.mem_cons, List.mem_append, List.not_mem_nil, or_false] at hb ⊢; rcases hb with h | h <;> simp [h]))) nb_bo49_9_ar19_22 (Nat.le_trans kw.size hk.size) sf_cln hw (okV_wt hok) m.repo hb_p2_0 (m.r) (Nat.le_trans hfm.2.2 (by decide)) (Nat.le_trans hfm.2.1 (by decide)) (Nat.le_trans hu (Nat.le_trans kw.size hk.size)) (pin_sa hPin hu) (fun b hb o h => h.2.2 ((show ∀ b ∈ (bo49_9 :: (blks hd1_22 ++ [])), b ∈ (b14_49 :: (blks hds9_22 ++ (blks hd1_22 ++ (bo49_9 :: (b5_2 :: []))))) from (fun b hb => by first | exact hb | (simp only [List.mem_cons, List.mem_append, List.not_mem_nil, or_false] at hb ⊢; rcases hb with h | h <;> simp [h]))) b hb)) _ (avt_r havm) ((rdRc_mk D_p2_2 (rdV_in (x := m.r.cu) hb_p2_5 D_p2_6 D_p2_7 : Rd W54 (SA w S (b14_49 :: (blks hds9_22 ++ (blks hd1_22 ++ (bo49_9 :: (b5_2 :: [])))))) (V.d (m.r.cu)) _) : Rd W54 (SA w S (b14_49 :: (blks hds9_22 ++ (blks hd1_22 ++ (bo49_9 :: (b5_2 :: [])))))) (Rc.d (m.r)) _).keeps hk (sub_nv (fun b hb => by first | exact hb | (simp only [List.mem_cons, List.mem_append, List.not_mem_nil, or_false] at hb ⊢; rcases hb with h | h <;> simp [h]))))).mono fun e W' ⟨u, h1, h2, n, er, L2, h3, h4, h5⟩ => ⟨u, h1, h2, n, er, L2, h3, h4, W, hk.size, h5⟩) ?_
    refine .done ⟨by kernel_rfl, fun a56 g W56 y56 zz56 hk hg hV hR hP => ?_⟩
    obtain ⟨e120, -, -, -, -, -, -⟩ := hV
    replace e7 := (hR 7 rfl).trans e7
    replace e9 := (hR 9 rfl).trans e9
    replace e14 := (hR 14 rfl).trans e14
    replace e15 := (hR 15 rfl).trans e15
    replace e16 := (hR 16 rfl).trans e16
    replace e17 := (hR 17 rfl).trans e17
    replace e18 := (hR 18 rfl).trans e18
    obtain ⟨nr_56, er_56, L2_56, e120, hao_56, hP⟩ := e120
    have hMlt : ∀ b ∈ (b14_49 :: (blks hds9_22 ++ (blks hd1_22 ++ (bo49_9 :: (b5_2 :: []))))), b < W54.heap.size := (in_cons own_b14_49.lt (in_app As9_22.lt (in_app A1_22.lt (in_cons own_bo49_9.lt (in_cons own_b5_2.lt in_nil)))))
    obtain ⟨W1, hW1, v_56, hd_56, own_bo49_9, A_56, nb_56, hf_56⟩ := hP
    replace hf_56 : ∀ b ∈ blks hd_56, b ∈ blks hd1_22 ∨ W54.heap.size ≤ b := fun b hb => (hf_56 b hb).imp id (Nat.le_trans hW1)
    obtain ⟨v_56a, v_56n, v_56c, ev⟩ := arr_sl A_56; subst ev
    replace A_56 : Arr W56 w.heap.size 156 8 (SF w (b14_49 :: (blks hds9_22 ++ (blks hd_56 ++ (bo49_9 :: (b5_2 :: [])))))) (List.map Vo.d (L2_56)) (.slice v_56a v_56n v_56c) hd_56 := row_outF A_56 (Nat.le_trans kw.size hW1) (fun b hb => Nat.lt_of_lt_of_le (hMlt b hb) hW1) (fun b hb => by simp only [List.mem_cons, List.mem_append, List.not_mem_nil, or_false] at hb ⊢; rcases hb with h | h | h | h | h <;> simp [h])
    replace D_v1 := sa_appL (M' := (b14_49 :: (blks hds9_22 ++ (blks hd_56 ++ (bo49_9 :: (b5_2 :: [])))))) D_v1 hk (fun b hb => by first | exact hb | (simp only [List.mem_cons, List.mem_append, List.not_mem_nil, or_false] at hb ⊢; rcases hb with h | h <;> simp [h])) (rep_cons (rep_app rep_refl (rep_app hf_56 (rep_cons (rep_cons rep_nil)))))
    replace D_p2_2 := sa_appL (M' := (b14_49 :: (blks hds9_22 ++ (blks hd_56 ++ (bo49_9 :: (b5_2 :: [])))))) D_p2_2 hk (fun b hb => by first | exact hb | (simp only [List.mem_cons, List.mem_append, List.not_mem_nil, or_false] at hb ⊢; rcases hb with h | h <;> simp [h])) (rep_cons (rep_app rep_refl (rep_app hf_56 (rep_cons (rep_cons rep_nil)))))
    replace D_p2_6 := sa_appL (M' := (b14_49 :: (blks hds9_22 ++ (blks hd_56 ++ (bo49_9 :: (b5_2 :: [])))))) D_p2_6 hk (fun b hb => by first | exact hb | (simp only [List.mem_cons, List.mem_append, List.not_mem_nil, or_false] at hb ⊢; rcases hb with h | h <;> simp [h])) (rep_cons (rep_app rep_refl (rep_app hf_56 (rep_cons (rep_cons rep_nil)))))
    replace D_p2_7 := sa_appL (M' := (b14_49 :: (blks hds9_22 ++ (blks hd_56 ++ (bo49_9 :: (b5_2 :: [])))))) D_p2_7 hk (fun b hb => by first | exact hb | (simp only [List.mem_cons, List.mem_append, List.not_mem_nil, or_false] at hb ⊢; rcases hb with h | h <;> simp [h])) (rep_cons (rep_app rep_refl (rep_app hf_56 (rep_cons (rep_cons rep_nil)))))
    replace D_v107_49_1 := sf_appL (M' := (b14_49 :: (blks hds9_22 ++ (blks hd_56 ++ (bo49_9 :: (b5_2 :: [])))))) D_v107_49_1 hk (fun b hb => by first | exact hb | (simp only [List.mem_cons, List.mem_append, List.not_mem_nil, or_false] at hb ⊢; rcases hb with h | h <;> simp [h])) (rep_cons (rep_app rep_refl (rep_app hf_56 (rep_cons (rep_cons rep_nil)))))
    replace D_v107_49_5 := sf_appL (M' := (b14_49 :: (blks hds9_22 ++ (blks hd_56 ++ (bo49_9 :: (b5_2 :: [])))))) D_v107_49_5 hk (fun b hb => by first | exact hb | (simp only [List.mem_cons, List.mem_append, List.not_mem_nil, or_false] at hb ⊢; rcases hb with h | h <;> simp [h])) (rep_cons (rep_app rep_refl (rep_app hf_56 (rep_cons (rep_cons rep_nil)))))
    replace D_v107_49_6 := sf_appL (M' := (b14_49 :: (blks hds9_22 ++ (blks hd_56 ++ (bo49_9 :: (b5_2 :: [])))))) D_v107_49_6 hk (fun b hb => by first | exact hb | (simp only [List.mem_cons, List.mem_append, List.not_mem_nil, or_false] at hb ⊢; rcases hb with h | h <;> simp [h])) (rep_cons (rep_app rep_refl (rep_app hf_56 (rep_cons (rep_cons rep_nil)))))
    have dj_ar21_56 : ∀ b ∈ blks hds9_22, b ∉ blks hd_56 := dj_new (dj_symm dj_ar19_ar21_22) As9_22.lt hf_56
    replace As9_22 := arrF_appL (M' := (b14_49 :: (blks hds9_22 ++ (blks hd_56 ++ (bo49_9 :: (b5_2 :: [])))))) As9_22 hk (fun b hb => by first | exact hb | (simp only [List.mem_cons, List.mem_append, List.not_mem_nil, or_false] at hb ⊢; rcases hb with h | h <;> simp [h])) (rep_cons (rep_app rep_refl (rep_app hf_56 (rep_cons (rep_cons rep_nil))))) (fun b hb => nin_boxA (fun e => nb_bo49_9_ar21_22 (e ▸ hb)) ((dj_symm dj_ar19_ar21_22) b hb))
    have nb_b5_2_56 : b5_2 ∉ blks hd_56 := nb_new nb_b5_2_ar19_22 own_b5_2.lt hf_56
    replace own_b5_2 := own_appL own_b5_2 hk (nin_boxA ne_b5_2_bo49_9 nb_b5_2_ar19_22)
    have nb_b14_49_56 : b14_49 ∉ blks hd_56 := nb_new nb_b14_49_ar19 own_b14_49.lt hf_56
    replace own_b14_49 := own_appL own_b14_49 hk (nin_boxA ne_bo49_9_b14_49.symm nb_b14_49_ar19)
    replace own_bo49_9 : Own W56 bo49_9 [(.int .i64 (n)), (.slice v_56a v_56n v_56c)] 104 := own_bo49_9
    replace kw := keeps_L kw hk (in_cons (.inl lo_bo49_9) (in_app (fun b hb => .inl (A1_22.ge b hb)) in_nil))
    clear hR hk hg hMlt hW1 hf_56 A1_22
    refine tail_reg 5 All y56 zz56 st_tr trivial rfl ?_
    refine .i (sp_move (hbs rfl e120)) ?_
    refine .i (v := (.int .i64 (nr_56))) (sp_extT (hlc rfl) rfl) ?_
    refine .i (v := (.int .i64 (er_56))) (sp_extT (hlc rfl) rfl) ?_
    refine .i (sp_assign (hlc rfl)) ?_
    refine .i (sp_assign (hlc rfl)) ?_
    refine .done ⟨by kernel_rfl, fun a57 g W57 y57 zz57 hk hg hV hR hP => ?_⟩
    refine tail_nil ?_
    show runTail _ _ _ _ _ _
    obtain ⟨e20, -, -, -, -, -⟩ := hV
    replace e7 := (hR 7 rfl).trans e7
    replace e9 := (hR 9 rfl).trans e9
    replace e14 := (hR 14 rfl).trans e14
    replace e15 := (hR 15 rfl).trans e15
    replace e16 := (hR 16 rfl).trans e16
    replace e17 := (hR 17 rfl).trans e17
    replace e18 := (hR 18 rfl).trans e18
    replace A_56 := A_56.ext hk
    replace As9_22 := As9_22.ext hk
    replace D_v1 := D_v1.ext hk
    replace D_v107_49_1 := D_v107_49_1.ext hk
    replace D_v107_49_5 := D_v107_49_5.ext hk
    replace D_v107_49_6 := D_v107_49_6.ext hk
    have e20 : sl a57 20 = (.int .i64 (er_56)) := e20
    replace own_b5_2 := own_b5_2.ext hk
    replace own_bo49_9 := own_bo49_9.ext hk
    replace own_b14_49 := own_b14_49.ext hk
    replace kw := kw.x hk
    clear hR hk hg hP
    have hok_L2_56 := addO_ok hao_56 hok (Nat.le_trans hfm.2.2 (by decide)) (Nat.le_trans hfm.2.1 (by decide))
    refine tail_nil (hK55 _ _ ?_)
    refine wp_seq_k fun K58 hK58 => ?_
    refine rg mixed y57 zz57 ?_
    refine .i (sp_move (hbs rfl e7)) ?_
    refine .op (φ := IsT3 (IsD (Fr W57) (Rc.d (wonR n L2_56))) (Is (.string (wonS n L2_56))) (Is (.bool (wonB n L2_56)))) (st_t3 (st_d sub_all) (st_is _) (st_is _)) (sp_call1 (φ1 := Is (.pointer (some ⟨bo49_9, 0, none⟩))) ent56 (hlc rfl) (fun g u1 W hk hgk h1 => by have h1 : u1 = _ := h1; subst u1; exact (Won_ok (n) (L2_56) W _ _ _ (own_bo49_9.ext hk) hw (okV_wt hok_L2_56) (okV_hs hok_L2_56) clnS_cln (arr_rdC (A_56.ext hk) sf_cln)).mono (fun _ _ ⟨v, h1, h2, r1, h3, h4⟩ => ⟨v, h1, h2, r1, _, _, h3, fresh_d hk hgk h4, rfl, rfl⟩))) ?_
    refine .op (φ := IsT3 (IsD (Fr W57) (Rc.d (wonR n L2_56))) (Is (.string (wonS n L2_56))) (Is (.bool (wonB n L2_56)))) (st_t3 (st_d sub_all) (st_is _) (st_is _)) (sp_move (hlc rfl)) ?_
    refine .da (X := Fr W57) (e := Rc.d (wonR n L2_56)) (sp_ext30 (hlc rfl)) ?_
    refine .i (v := (.string (wonS n L2_56))) (sp_ext31 (hlc rfl)) ?_
    refine .i (v := (.bool (wonB n L2_56))) (sp_ext32 (hlc rfl)) ?_
    refine .alloc z87 ?_
    refine .done ⟨by kernel_rfl, fun a59 g W59 y59 zz59 hk hg hV hR hP => ?_⟩
    obtain ⟨⟨b21_59, e21, hb21, own_b21_59⟩, e128, e127, e126, -, -, -, -⟩ := hV
    have lo_b21_59 : w.heap.size ≤ b21_59 := Nat.le_trans kw.size (hg.lo _ _ hb21)
    have ne_b5_2_b21_59 : b5_2 ≠ b21_59 := Nat.ne_of_lt (Nat.lt_of_lt_of_le own_b5_2.lt (hg.lo _ _ hb21))
    have ne_bo49_9_b21_59 : bo49_9 ≠ b21_59 := Nat.ne_of_lt (Nat.lt_of_lt_of_le own_bo49_9.lt (hg.lo _ _ hb21))
    have ne_b14_49_b21_59 : b14_49 ≠ b21_59 := Nat.ne_of_lt (Nat.lt_of_lt_of_le own_b14_49.lt (hg.lo _ _ hb21))
    have own_b21_59 : Own W59 b21_59 [(.int .i64 (0)), (.slice none 0 0), (.int .u8 (0)), (.int .i64 (0)), (.string (⟨#[]⟩)), (.slice none 0 0), (.slice none 0 0)] 87 := own_b21_59
    replace e7 := (hR 7 rfl).trans e7
    replace e9 := (hR 9 rfl).trans e9
    replace e14 := (hR 14 rfl).trans e14
    replace e15 := (hR 15 rfl).trans e15
    replace e16 := (hR 16 rfl).trans e16
    replace e17 := (hR 17 rfl).trans e17
    replace e18 := (hR 18 rfl).trans e18
    replace e20 := (hR 20 rfl).trans e20
    have hMx : ∀ b ∈ (b14_49 :: (blks hds9_22 ++ (blks hd_56 ++ (bo49_9 :: (b5_2 :: []))))), b < W57.heap.size := (in_cons own_b14_49.lt (in_app As9_22.lt (in_app A_56.lt (in_cons own_bo49_9.lt (in_cons own_b5_2.lt in_nil)))))
    have nb_b21_59_ar19 : b21_59 ∉ blks hd_56 := nb_lt A_56.lt (hg.lo _ _ hb21)
    replace A_56 : Arr W59 w.heap.size 156 8 (SF w (b21_59 :: (b14_49 :: (blks hds9_22 ++ (blks hd_56 ++ (bo49_9 :: (b5_2 :: []))))))) (List.map Vo.d (L2_56)) (.slice v_56a v_56n v_56c) hd_56 := arrF_more A_56 hk [b21_59] (in_cons (hg.lo _ _ hb21) in_nil)
    have nb_b21_59_ar21 : b21_59 ∉ blks hds9_22 := nb_lt As9_22.lt (hg.lo _ _ hb21)
    replace As9_22 : Arr W59 w.heap.size 9 1 (SF w (b21_59 :: (b14_49 :: (blks hds9_22 ++ (blks hd_56 ++ (bo49_9 :: (b5_2 :: []))))))) (List.map D.str (List.map Vo.repo L)) vs9_22 hds9_22 := arrF_more As9_22 hk [b21_59] (in_cons (hg.lo _ _ hb21) in_nil)
    replace D_v1 : Rd W59 (SA w S (b21_59 :: (b14_49 :: (blks hds9_22 ++ (blks hd_56 ++ (bo49_9 :: (b5_2 :: []))))))) (tosD (l)) (.slice v1a (l.length) v1c) := sa_more D_v1 hk [b21_59] (in_cons (hg.lo _ _ hb21) in_nil)
    replace D_v107_49_1 : Rd W59 (SF w (b21_59 :: (b14_49 :: (blks hds9_22 ++ (blks hd_56 ++ (bo49_9 :: (b5_2 :: []))))))) (hssD ((wonR n L).hs)) (.slice v107_49_1a (((wonR n L).hs).length) v107_49_1c) := sf_more D_v107_49_1 hk [b21_59] (in_cons (hg.lo _ _ hb21) in_nil)
    replace D_v107_49_5 : Rd W59 (SF w (b21_59 :: (b14_49 :: (blks hds9_22 ++ (blks hd_56 ++ (bo49_9 :: (b5_2 :: []))))))) (strsD ((wonR n L).cu.ns)) (.slice v107_49_5a (((wonR n L).cu.ns).length) v107_49_5c) := sf_more D_v107_49_5 hk [b21_59] (in_cons (hg.lo _ _ hb21) in_nil)
    replace D_v107_49_6 : Rd W59 (SF w (b21_59 :: (b14_49 :: (blks hds9_22 ++ (blks hd_56 ++ (bo49_9 :: (b5_2 :: []))))))) (valsD ((wonR n L).cu.xs)) (.slice v107_49_6a (((wonR n L).cu.xs).length) v107_49_6c) := sf_more D_v107_49_6 hk [b21_59] (in_cons (hg.lo _ _ hb21) in_nil)
    obtain ⟨v126_59, ev⟩ : ∃ v, sl a59 126 = v := ⟨_, rfl⟩
    rw [ev] at e126
    have D_v126_59 : Rd W59 (SF w (b21_59 :: (b14_49 :: (blks hds9_22 ++ (blks hd_56 ++ (bo49_9 :: (b5_2 :: []))))))) (Rc.d (wonR n L2_56)) v126_59 := fr_end (M := (b14_49 :: (blks hds9_22 ++ (blks hd_56 ++ (bo49_9 :: (b5_2 :: [])))))) e126 kw [b21_59] (in_cons ⟨_, hb21⟩ in_nil) hMx
    replace e126 := ev; clear ev
    obtain ⟨v126_59_1a, v126_59_1c, v126_59_5a, v126_59_5c, v126_59_6a, v126_59_6c, ev, hb_v126_59_4, D_v126_59_1, D_v126_59_5, D_v126_59_6⟩ := rdRc_out D_v126_59
    subst ev; clear D_v126_59
    have e127 : sl a59 127 = (.string (wonS n L2_56)) := e127
    have e128 : sl a59 128 = (.bool (wonB n L2_56)) := e128
    replace own_b5_2 := own_b5_2.ext hk
    replace own_bo49_9 := own_bo49_9.ext hk
    replace own_b14_49 := own_b14_49.ext hk
    replace kw := kw.x hk
    clear hR hk hg hP hb21
    refine tail_store (b := b21_59) (o := 0) (v := (.agg #[(.int .i64 ((wonR n L2_56).ln)), (.slice v126_59_1a (((wonR n L2_56).hs).length) v126_59_1c), (.int .u8 ((wonR n L2_56).cu.k)), (.int .i64 ((wonR n L2_56).cu.n)), (.string ((wonR n L2_56).cu.t)), (.slice v126_59_5a (((wonR n L2_56).cu.ns).length) v126_59_5c), (.slice v126_59_6a (((wonR n L2_56).cu.xs).length) v126_59_6c)])) e21 e126 sz87 rfl own_b21_59 (lbr rfl) (all_cons rfl (all_cons rfl (all_cons rfl (all_cons rfl (all_cons rfl (all_cons rfl (all_cons rfl all_nil))))))) (fun W60 hs own_b21_59 => ?_)
    have own_b21_59 : Own W60 b21_59 [(.int .i64 ((wonR n L2_56).ln)), (.slice v126_59_1a (((wonR n L2_56).hs).length) v126_59_1c), (.int .u8 ((wonR n L2_56).cu.k)), (.int .i64 ((wonR n L2_56).cu.n)), (.string ((wonR n L2_56).cu.t)), (.slice v126_59_5a (((wonR n L2_56).cu.ns).length) v126_59_5c), (.slice v126_59_6a (((wonR n L2_56).cu.xs).length) v126_59_6c)] 87 := own_b21_59
    replace own_b5_2 := own_store own_b5_2 hs ne_b5_2_b21_59
    replace own_bo49_9 := own_store own_bo49_9 hs ne_bo49_9_b21_59
    replace own_b14_49 := own_store own_b14_49 hs ne_b14_49_b21_59
    replace D_v1 := sa_store D_v1 hs (by simp)
    replace D_v107_49_1 := sf_store D_v107_49_1 hs (by simp)
    replace D_v107_49_5 := sf_store D_v107_49_5 hs (by simp)
    replace D_v107_49_6 := sf_store D_v107_49_6 hs (by simp)
    replace D_v126_59_1 := sf_store D_v126_59_1 hs (by simp)
    replace D_v126_59_5 := sf_store D_v126_59_5 hs (by simp)
    replace D_v126_59_6 := sf_store D_v126_59_6 hs (by simp)
    replace A_56 := arrF_store A_56 hs (by simp) nb_b21_59_ar19
    replace As9_22 := arrF_store As9_22 hs (by simp) nb_b21_59_ar21
    replace kw := keeps_store kw hs lo_b21_59
    clear hs
    refine tail_assign (v := (.string (wonS n L2_56))) e127 (by rw [y59]; exact Nat.le_of_ble_eq_true rfl) (fun a61 y61 zz61 e22 hr => ?_)
    replace y61 := y61.trans y59; replace zz61 := zz61.trans zz59
    replace e7 := (hr 7 (by decide)).trans e7
    replace e9 := (hr 9 (by decide)).trans e9
    replace e14 := (hr 14 (by decide)).trans e14
    replace e15 := (hr 15 (by decide)).trans e15
    replace e16 := (hr 16 (by decide)).trans e16
    replace e17 := (hr 17 (by decide)).trans e17
    replace e18 := (hr 18 (by decide)).trans e18
    replace e20 := (hr 20 (by decide)).trans e20
    replace e21 := (hr 21 (by decide)).trans e21
    replace e126 := (hr 126 (by decide)).trans e126
    replace e127 := (hr 127 (by decide)).trans e127
    replace e128 := (hr 128 (by decide)).trans e128
    clear hr
    refine tail_assign (v := (.bool (wonB n L2_56))) e128 (by rw [y61]; exact Nat.le_of_ble_eq_true rfl) (fun a62 y62 zz62 e23 hr => ?_)
    replace y62 := y62.trans y61; replace zz62 := zz62.trans zz61
    replace e7 := (hr 7 (by decide)).trans e7
    replace e9 := (hr 9 (by decide)).trans e9
    replace e14 := (hr 14 (by decide)).trans e14
    replace e15 := (hr 15 (by decide)).trans e15
    replace e16 := (hr 16 (by decide)).trans e16
    replace e17 := (hr 17 (by decide)).trans e17
    replace e18 := (hr 18 (by decide)).trans e18
    replace e20 := (hr 20 (by decide)).trans e20
    replace e21 := (hr 21 (by decide)).trans e21
    replace e126 := (hr 126 (by decide)).trans e126
    replace e127 := (hr 127 (by decide)).trans e127
    replace e128 := (hr 128 (by decide)).trans e128
    replace e22 := (hr 22 (by decide)).trans e22
    clear hr
    refine tail_nil (hK58 _ _ ?_)
    refine wp_seq_k fun K63 hK63 => ?_
    refine wp_seq_k fun K64 hK64 => ?_
    refine rg mixed y62 zz62 ?_
    refine .i (sp_move (hbs rfl e17)) ?_
    refine .i (sp_move (hbs rfl e9)) ?_
    refine .i (sp_lenSs Try.underlying23 ((hlc rfl).dat (arr_rdU As9_22) sub_all)) ?_
    refine .i (sp_neq (hlc rfl) (hlc rfl)) ?_
    refine .i (sp_move (hlc rfl)) ?_
    refine .e (t := 133) rfl (hlc rfl) (fun hg => sp_move (hbs rfl e17)) ?_
    refine .e (t := 133) rfl (hlc rfl) (fun hg => sp_gtr ((hlc rfl).undE hg) Has.cst) ?_
    refine .i (sp_or (hlc rfl) ((hlc rfl).weak fun hq => hq)) ?_
    refine .done ⟨by kernel_rfl, fun a65 g W65 y65 zz65 hk hg hV hR hP => ?_⟩
    obtain ⟨e136, -, -, -, -, -, -, -, -⟩ := hV
    replace e7 := (hR 7 rfl).trans e7
    replace e14 := (hR 14 rfl).trans e14
    replace e15 := (hR 15 rfl).trans e15
    replace e16 := (hR 16 rfl).trans e16
    replace e17 := (hR 17 rfl).trans e17
    replace e18 := (hR 18 rfl).trans e18
    replace e20 := (hR 20 rfl).trans e20
    replace e21 := (hR 21 rfl).trans e21
    replace e22 := (hR 22 rfl).trans e22
    replace e23 := (hR 23 rfl).trans e23
    replace A_56 := A_56.ext hk
    replace As9_22 := As9_22.ext hk
    replace D_v1 := D_v1.ext hk
    replace D_v107_49_1 := D_v107_49_1.ext hk
    replace D_v107_49_5 := D_v107_49_5.ext hk
    replace D_v107_49_6 := D_v107_49_6.ext hk
    replace D_v126_59_1 := D_v126_59_1.ext hk
    replace D_v126_59_5 := D_v126_59_5.ext hk
    replace D_v126_59_6 := D_v126_59_6.ext hk
    replace e136 := e136.q
    replace own_b5_2 := own_b5_2.ext hk
    replace own_bo49_9 := own_bo49_9.ext hk
    replace own_b14_49 := own_b14_49.ext hk
    replace own_b21_59 := own_b21_59.ext hk
    replace kw := kw.x hk
    clear hR hk hg hP
    refine tail_nil (hK64 _ _ ?_)
    refine wp_cond_split e136 (fun hc => ?_) (fun hc => ?_)
    ·
     exfalso
     simp at hc
     omega
    ·
     refine wp_skip (hK63 _ _ ?_)
     refine wp_seq_k fun K66 hK66 => ?_
     refine wp_seq_k fun K67 hK67 => ?_
     refine rg mixed y65 zz65 ?_
     refine .i (sp_move (hbs rfl e20)) ?_
     refine .i (sp_neq (hlc rfl) Has.cst) ?_
     refine .done ⟨by kernel_rfl, fun a68 g W68 y68 zz68 hk hg hV hR hP => ?_⟩
     obtain ⟨e138, -, -⟩ := hV
     replace e7 := (hR 7 rfl).trans e7
     replace e14 := (hR 14 rfl).trans e14
     replace e15 := (hR 15 rfl).trans e15
     replace e16 := (hR 16 rfl).trans e16
     replace e17 := (hR 17 rfl).trans e17
     replace e18 := (hR 18 rfl).trans e18
     replace e21 := (hR 21 rfl).trans e21
     replace e22 := (hR 22 rfl).trans e22
     replace e23 := (hR 23 rfl).trans e23
     replace A_56 := A_56.ext hk
     replace As9_22 := As9_22.ext hk
     replace D_v1 := D_v1.ext hk
     replace D_v107_49_1 := D_v107_49_1.ext hk
     replace D_v107_49_5 := D_v107_49_5.ext hk
     replace D_v107_49_6 := D_v107_49_6.ext hk
     replace D_v126_59_1 := D_v126_59_1.ext hk
     replace D_v126_59_5 := D_v126_59_5.ext hk
     replace D_v126_59_6 := D_v126_59_6.ext hk
     have e138 : sl a68 138 = (.bool ((er_56 : Int) != (0 : Int))) := e138
     replace own_b5_2 := own_b5_2.ext hk
     replace own_bo49_9 := own_bo49_9.ext hk
     replace own_b14_49 := own_b14_49.ext hk
     replace own_b21_59 := own_b21_59.ext hk
     replace kw := kw.x hk
     clear hR hk hg hP
     refine tail_nil (hK67 _ _ ?_)
     refine wp_cond_split e138 (fun hc => ?_) (fun hc => ?_)
     ·
      have hL3 : L2_56 = L := addO_old hao_56 (by simpa using hc)
      refine wp_seq_k fun K69 hK69 => ?_
      refine rg mixed y68 zz68 ?_
      refine .i (sp_move (hbs rfl e7)) ?_
      refine .i (v := (.int .i64 ((L2_56).length))) (sp_call1 (φ1 := Is (.pointer (some ⟨bo49_9, 0, none⟩))) ent57 (hlc rfl) (fun g u1 W hk hgk h1 => by have h1 : u1 = _ := h1; subst u1; exact Len_ok (n) (L2_56) W _ _ _ (own_bo49_9.ext hk) hw (arr_rdC (A_56.ext hk) sf_cln))) ?_
      refine .i (sp_move (hbs rfl e17)) ?_
      refine .i (sp_eql (hlc rfl) (hlc rfl)) ?_
      refine .i (sp_move (hlc rfl)) ?_
      refine .e (t := 143) rfl (hlc rfl) (fun hg => sp_move (hbs rfl e7)) ?_
      refine .e (t := 143) (v := (.int .i64 (((mostV (L2_56) (L2_56) 0 : Nat) : Int)))) rfl (hlc rfl) (fun hg => sp_call1 (φ1 := Is (.pointer (some ⟨bo49_9, 0, none⟩))) ent58 ((hlc rfl).undE hg) (fun g u1 W hk hgk h1 => by have h1 : u1 = _ := h1; subst u1; exact Most_ok (n) (L2_56) W _ _ _ (own_bo49_9.ext hk) hw (okV_wt hok_L2_56) clnS_cln (arr_rdC (A_56.ext hk) sf_cln))) ?_
      refine .e (t := 143) rfl (hlc rfl) (fun hg => sp_move (hbs rfl e18)) ?_
      refine .e (t := 143) rfl (hlc rfl) (fun hg => sp_eql ((hlc rfl).undE hg) ((hlc rfl).undE hg)) ?_
      refine .i (sp_and (hlc rfl) ((hlc rfl).weak fun hq => hq)) ?_
      refine .i (sp_move (hlc rfl)) ?_
      refine .e (t := 149) rfl (hlc rfl) (fun hg => sp_move (hbs rfl e16)) ?_
      refine .e (t := 149) rfl (hlc rfl) (fun hg => sp_move (hbs rfl e23)) ?_
      refine .e (t := 149) rfl (hlc rfl) (fun hg => sp_bEql Try.underlying4 ((hlc rfl).undE hg) ((hlc rfl).undE hg)) ?_
      refine .i (sp_and (hlc rfl) ((hlc rfl).weak fun hq => hq)) ?_
      refine .i (sp_move (hlc rfl)) ?_
      refine .e (t := 154) rfl (hlc rfl) (fun hg => sp_move (hbs rfl e15)) ?_
      refine .e (t := 154) rfl (hlc rfl) (fun hg => sp_move (hbs rfl e22)) ?_
      refine .e (t := 154) rfl (hlc rfl) (fun hg => sp_sEql ((hlc rfl).undE hg) ((hlc rfl).undE hg)) ?_
      refine .i (sp_and (hlc rfl) ((hlc rfl).weak fun hq => hq)) ?_
      refine .i (sp_move (hlc rfl)) ?_
      refine .e (t := 159) rfl (hlc rfl) (fun hg => sp_move (hbs rfl e16)) ?_
      refine .e (t := 159) rfl (hlc rfl) (fun hg => sp_not ((hlc rfl).undE hg)) ?_
      refine .e (t := 159) rfl (hlc rfl) (fun hg => sp_move ((hlc rfl).undE hg)) ?_
      refine .opEE (t := 162) (x := !(wonB n L)) (p := ((((((L2_56).length : Int) == ((L).length : Int)) && ((((mostV (L2_56) (L2_56) 0 : Nat) : Int) : Int) == (((mostV (L) (L) 0 : Nat) : Int) : Int))) && ((wonB n L) == (wonB n L2_56))) && (decide ((wonS n L) = (wonS n L2_56)))) = true) (φ := Is (.agg #[(.int .i64 ((wonR n L).ln)), (.slice v107_49_1a (((wonR n L).hs).length) v107_49_1c), (.int .u8 ((wonR n L).cu.k)), (.int .i64 ((wonR n L).cu.n)), (.string ((wonR n L).cu.t)), (.slice v107_49_5a (((wonR n L).cu.ns).length) v107_49_5c), (.slice v107_49_6a (((wonR n L).cu.xs).length) v107_49_6c)])) rfl (hlc rfl) (st_is _) (fun hg => sp_loadO (v := (.agg #[(.int .i64 ((wonR n L).ln)), (.slice v107_49_1a (((wonR n L).hs).length) v107_49_1c), (.int .u8 ((wonR n L).cu.k)), (.int .i64 ((wonR n L).cu.n)), (.string ((wonR n L).cu.t)), (.slice v107_49_5a (((wonR n L).cu.ns).length) v107_49_5c), (.slice v107_49_6a (((wonR n L).cu.xs).length) v107_49_6c)])) (hbs rfl e14) own_b14_49 trivial agg87 sz87 (lbr rfl) (fun h => by first | rfl | cases h) rfl) ?_
      refine .opEE (t := 162) (x := !(wonB n L)) (p := ((((((L2_56).length : Int) == ((L).length : Int)) && ((((mostV (L2_56) (L2_56) 0 : Nat) : Int) : Int) == (((mostV (L) (L) 0 : Nat) : Int) : Int))) && ((wonB n L) == (wonB n L2_56))) && (decide ((wonS n L) = (wonS n L2_56)))) = true) (φ := Is (.agg #[(.int .i64 ((wonR n L2_56).ln)), (.slice v126_59_1a (((wonR n L2_56).hs).length) v126_59_1c), (.int .u8 ((wonR n L2_56).cu.k)), (.int .i64 ((wonR n L2_56).cu.n)), (.string ((wonR n L2_56).cu.t)), (.slice v126_59_5a (((wonR n L2_56).cu.ns).length) v126_59_5c), (.slice v126_59_6a (((wonR n L2_56).cu.xs).length) v126_59_6c)])) rfl (hlc rfl) (st_is _) (fun hg => sp_loadO (v := (.agg #[(.int .i64 ((wonR n L2_56).ln)), (.slice v126_59_1a (((wonR n L2_56).hs).length) v126_59_1c), (.int .u8 ((wonR n L2_56).cu.k)), (.int .i64 ((wonR n L2_56).cu.n)), (.string ((wonR n L2_56).cu.t)), (.slice v126_59_5a (((wonR n L2_56).cu.ns).length) v126_59_5c), (.slice v126_59_6a (((wonR n L2_56).cu.xs).length) v126_59_6c)])) (hbs rfl e21) own_b21_59 trivial agg87 sz87 (lbr rfl) (fun h => by first | rfl | cases h) rfl) ?_
      refine .opEE (t := 162) (x := !(wonB n L)) (p := ((((((L2_56).length : Int) == ((L).length : Int)) && ((((mostV (L2_56) (L2_56) 0 : Nat) : Int) : Int) == (((mostV (L) (L) 0 : Nat) : Int) : Int))) && ((wonB n L) == (wonB n L2_56))) && (decide ((wonS n L) = (wonS n L2_56)))) = true) (φ := Is (.bool (sameR (wonR n L) (wonR n L2_56)))) rfl (hlc rfl) (st_is _) (fun hg => sp_call2 (φ1 := IsD (SF w (b21_59 :: (b14_49 :: (blks hds9_22 ++ (blks hd_56 ++ (bo49_9 :: (b5_2 :: []))))))) (Rc.d ((wonR n L)))) (φ2 := IsD (SF w (b21_59 :: (b14_49 :: (blks hds9_22 ++ (blks hd_56 ++ (bo49_9 :: (b5_2 :: []))))))) (Rc.d ((wonR n L2_56)))) ent59 (((hlc rfl).undE hg).dat (rdRc_mk D_v107_49_1 (rdV_in (x := (wonR n L).cu) hb_v107_49_4 D_v107_49_5 D_v107_49_6 : Rd W68 (SF w (b21_59 :: (b14_49 :: (blks hds9_22 ++ (blks hd_56 ++ (bo49_9 :: (b5_2 :: []))))))) (V.d ((wonR n L).cu)) _) : Rd W68 (SF w (b21_59 :: (b14_49 :: (blks hds9_22 ++ (blks hd_56 ++ (bo49_9 :: (b5_2 :: []))))))) (Rc.d ((wonR n L))) _) sub_all) (((hlc rfl).undE hg).dat (rdRc_mk D_v126_59_1 (rdV_in (x := (wonR n L2_56).cu) hb_v126_59_4 D_v126_59_5 D_v126_59_6 : Rd W68 (SF w (b21_59 :: (b14_49 :: (blks hds9_22 ++ (blks hd_56 ++ (bo49_9 :: (b5_2 :: []))))))) (V.d ((wonR n L2_56).cu)) _) : Rd W68 (SF w (b21_59 :: (b14_49 :: (blks hds9_22 ++ (blks hd_56 ++ (bo49_9 :: (b5_2 :: []))))))) (Rc.d ((wonR n L2_56))) _) sub_all) (fun g u1 u2 W hk hgk h1 h2 => SameR_ok ((wonR n L)) ((wonR n L2_56)) (wonR_wt hok) (wonR_wt hok_L2_56) W _ _ _ (fun b o h => h.1.2.1) h1 h2)) ?_
      refine .e (t := 159) rfl (hlc rfl) (fun hg => sp_or ((hlc rfl).undE hg) ((hlc rfl).weak fun hq => ⟨hg, hq⟩)) ?_
      refine .i (sp_and (hlc rfl) ((hlc rfl).weak fun hq => hq)) ?_
      refine .i (sp_assign (hlc rfl)) ?_
      refine .done ⟨by kernel_rfl, fun a70 g W70 y70 zz70 hk hg hV hR hP => ?_⟩
      obtain ⟨e6, -, -, -, -, -, -, -, -, -, -, -, -, -, -, -, -, -, -, -, -, -, -, -, -, -, -, -, -, -, -⟩ := hV
      replace A_56 := A_56.ext hk
      replace As9_22 := As9_22.ext hk
      replace D_v1 := D_v1.ext hk
      replace D_v107_49_1 := D_v107_49_1.ext hk
      replace D_v107_49_5 := D_v107_49_5.ext hk
      replace D_v107_49_6 := D_v107_49_6.ext hk
      replace D_v126_59_1 := D_v126_59_1.ext hk
      replace D_v126_59_5 := D_v126_59_5.ext hk
      replace D_v126_59_6 := D_v126_59_6.ext hk
      replace e6 := e6.q
      replace own_b5_2 := own_b5_2.ext hk
      replace own_bo49_9 := own_bo49_9.ext hk
      replace own_b14_49 := own_b14_49.ext hk
      replace own_b21_59 := own_b21_59.ext hk
      replace kw := kw.x hk
      clear hR hk hg hP
      refine tail_nil (hK69 _ _ ?_)
      refine wp_ret ?_
      refine (show bodyPost Try.prog Try.f8 _ .ret _ _ from ret1 rfl zz70 e6 ⟨_, rfl, kw, ?_⟩)
      refine congrArg Value.bool ?_
      rw [hL3]
      simp [sameR_refl]
     ·
      obtain ⟨xx, hL3⟩ := addO_app hao_56 (by simpa using hc)
      refine wp_skip (hK66 _ _ ?_)
      refine wp_seq_k fun K71 hK71 => ?_
      refine rg mixed y68 zz68 ?_
      refine .i (sp_move (hbs rfl e7)) ?_
      refine .i (v := (.int .i64 ((L2_56).length))) (sp_call1 (φ1 := Is (.pointer (some ⟨bo49_9, 0, none⟩))) ent57 (hlc rfl) (fun g u1 W hk hgk h1 => by have h1 : u1 = _ := h1; subst u1; exact Len_ok (n) (L2_56) W _ _ _ (own_bo49_9.ext hk) hw (arr_rdC (A_56.ext hk) sf_cln))) ?_
      refine .i (sp_move (hbs rfl e17)) ?_
      refine .i (sp_add (hlc rfl) Has.cst (i64_in (by omega))) ?_
      refine .i (sp_eql (hlc rfl) (hlc rfl)) ?_
      refine .i (sp_move (hlc rfl)) ?_
      refine .e (t := 173) rfl (hlc rfl) (fun hg => sp_move (hbs rfl e7)) ?_
      refine .e (t := 173) (v := (.int .i64 (((mostV (L2_56) (L2_56) 0 : Nat) : Int)))) rfl (hlc rfl) (fun hg => sp_call1 (φ1 := Is (.pointer (some ⟨bo49_9, 0, none⟩))) ent58 ((hlc rfl).undE hg) (fun g u1 W hk hgk h1 => by have h1 : u1 = _ := h1; subst u1; exact Most_ok (n) (L2_56) W _ _ _ (own_bo49_9.ext hk) hw (okV_wt hok_L2_56) clnS_cln (arr_rdC (A_56.ext hk) sf_cln))) ?_
      refine .e (t := 173) rfl (hlc rfl) (fun hg => sp_move (hbs rfl e18)) ?_
      refine .e (t := 173) rfl (hlc rfl) (fun hg => sp_geq ((hlc rfl).undE hg) ((hlc rfl).undE hg)) ?_
      refine .i (sp_and (hlc rfl) ((hlc rfl).weak fun hq => hq)) ?_
      refine .i (sp_move (hlc rfl)) ?_
      refine .e (t := 179) rfl (hlc rfl) (fun hg => sp_move (hbs rfl e16)) ?_
      refine .e (t := 179) rfl (hlc rfl) (fun hg => sp_not ((hlc rfl).undE hg)) ?_
      refine .e (t := 179) rfl (hlc rfl) (fun hg => sp_move ((hlc rfl).undE hg)) ?_
      refine .opEE (t := 182) (x := !(wonB n L)) (p := ((((L2_56).length : Int) == (((L).length : Int) + (1 : Int) : Int)) && (decide ((((mostV (L) (L) 0 : Nat) : Int) : Int) ≤ (((mostV (L2_56) (L2_56) 0 : Nat) : Int) : Int)))) = true) (φ := Is (.bool (wonB n L2_56))) rfl (hlc rfl) (st_is _) (fun hg => sp_move (hbs rfl e23)) ?_
      refine .opEE (t := 182) (x := !(wonB n L)) (p := ((((L2_56).length : Int) == (((L).length : Int) + (1 : Int) : Int)) && (decide ((((mostV (L) (L) 0 : Nat) : Int) : Int) ≤ (((mostV (L2_56) (L2_56) 0 : Nat) : Int) : Int)))) = true) (φ := Is (.bool (wonB n L2_56))) rfl (hlc rfl) (st_is _) (fun hg => sp_move ((hlc rfl).undE hg)) ?_
      refine .opEE (t := 184) (x := wonB n L2_56) (p := (((((L2_56).length : Int) == (((L).length : Int) + (1 : Int) : Int)) && (decide ((((mostV (L) (L) 0 : Nat) : Int) : Int) ≤ (((mostV (L2_56) (L2_56) 0 : Nat) : Int) : Int)))) = true) ∧ (!(wonB n L)) = false) (φ := Is (.string (wonS n L))) rfl (hlc rfl) (st_is _) (fun hg => sp_move (hbs rfl e15)) ?_
      refine .opEE (t := 184) (x := wonB n L2_56) (p := (((((L2_56).length : Int) == (((L).length : Int) + (1 : Int) : Int)) && (decide ((((mostV (L) (L) 0 : Nat) : Int) : Int) ≤ (((mostV (L2_56) (L2_56) 0 : Nat) : Int) : Int)))) = true) ∧ (!(wonB n L)) = false) (φ := Is (.string (wonS n L2_56))) rfl (hlc rfl) (st_is _) (fun hg => sp_move (hbs rfl e22)) ?_
      refine .opEE (t := 184) (x := wonB n L2_56) (p := (((((L2_56).length : Int) == (((L).length : Int) + (1 : Int) : Int)) && (decide ((((mostV (L) (L) 0 : Nat) : Int) : Int) ≤ (((mostV (L2_56) (L2_56) 0 : Nat) : Int) : Int)))) = true) ∧ (!(wonB n L)) = false) (φ := Is (.bool (decide ((wonS n L) = (wonS n L2_56))))) rfl (hlc rfl) (st_is _) (fun hg => sp_sEql ((hlc rfl).undE hg) ((hlc rfl).undE hg)) ?_
      refine .opEE (t := 182) (x := !(wonB n L)) (p := ((((L2_56).length : Int) == (((L).length : Int) + (1 : Int) : Int)) && (decide ((((mostV (L) (L) 0 : Nat) : Int) : Int) ≤ (((mostV (L2_56) (L2_56) 0 : Nat) : Int) : Int)))) = true) (φ := Is (.bool ((wonB n L2_56) && (decide ((wonS n L) = (wonS n L2_56)))))) rfl (hlc rfl) (st_is _) (fun hg => sp_and ((hlc rfl).undE hg) ((hlc rfl).weak fun hq => ⟨hg, hq⟩)) ?_
      refine .opEE (t := 182) (x := !(wonB n L)) (p := ((((L2_56).length : Int) == (((L).length : Int) + (1 : Int) : Int)) && (decide ((((mostV (L) (L) 0 : Nat) : Int) : Int) ≤ (((mostV (L2_56) (L2_56) 0 : Nat) : Int) : Int)))) = true) (φ := Is (.bool ((wonB n L2_56) && (decide ((wonS n L) = (wonS n L2_56)))))) rfl (hlc rfl) (st_is _) (fun hg => sp_move ((hlc rfl).undE hg)) ?_
      refine .opEE (t := 189) (x := (wonB n L2_56) && (decide ((wonS n L) = (wonS n L2_56)))) (p := (((((L2_56).length : Int) == (((L).length : Int) + (1 : Int) : Int)) && (decide ((((mostV (L) (L) 0 : Nat) : Int) : Int) ≤ (((mostV (L2_56) (L2_56) 0 : Nat) : Int) : Int)))) = true) ∧ (!(wonB n L)) = false) (φ := Is (.agg #[(.int .i64 ((wonR n L).ln)), (.slice v107_49_1a (((wonR n L).hs).length) v107_49_1c), (.int .u8 ((wonR n L).cu.k)), (.int .i64 ((wonR n L).cu.n)), (.string ((wonR n L).cu.t)), (.slice v107_49_5a (((wonR n L).cu.ns).length) v107_49_5c), (.slice v107_49_6a (((wonR n L).cu.xs).length) v107_49_6c)])) rfl (hlc rfl) (st_is _) (fun hg => sp_loadO (v := (.agg #[(.int .i64 ((wonR n L).ln)), (.slice v107_49_1a (((wonR n L).hs).length) v107_49_1c), (.int .u8 ((wonR n L).cu.k)), (.int .i64 ((wonR n L).cu.n)), (.string ((wonR n L).cu.t)), (.slice v107_49_5a (((wonR n L).cu.ns).length) v107_49_5c), (.slice v107_49_6a (((wonR n L).cu.xs).length) v107_49_6c)])) (hbs rfl e14) own_b14_49 trivial agg87 sz87 (lbr rfl) (fun h => by first | rfl | cases h) rfl) ?_
      refine .opEE (t := 189) (x := (wonB n L2_56) && (decide ((wonS n L) = (wonS n L2_56)))) (p := (((((L2_56).length : Int) == (((L).length : Int) + (1 : Int) : Int)) && (decide ((((mostV (L) (L) 0 : Nat) : Int) : Int) ≤ (((mostV (L2_56) (L2_56) 0 : Nat) : Int) : Int)))) = true) ∧ (!(wonB n L)) = false) (φ := Is (.agg #[(.int .i64 ((wonR n L2_56).ln)), (.slice v126_59_1a (((wonR n L2_56).hs).length) v126_59_1c), (.int .u8 ((wonR n L2_56).cu.k)), (.int .i64 ((wonR n L2_56).cu.n)), (.string ((wonR n L2_56).cu.t)), (.slice v126_59_5a (((wonR n L2_56).cu.ns).length) v126_59_5c), (.slice v126_59_6a (((wonR n L2_56).cu.xs).length) v126_59_6c)])) rfl (hlc rfl) (st_is _) (fun hg => sp_loadO (v := (.agg #[(.int .i64 ((wonR n L2_56).ln)), (.slice v126_59_1a (((wonR n L2_56).hs).length) v126_59_1c), (.int .u8 ((wonR n L2_56).cu.k)), (.int .i64 ((wonR n L2_56).cu.n)), (.string ((wonR n L2_56).cu.t)), (.slice v126_59_5a (((wonR n L2_56).cu.ns).length) v126_59_5c), (.slice v126_59_6a (((wonR n L2_56).cu.xs).length) v126_59_6c)])) (hbs rfl e21) own_b21_59 trivial agg87 sz87 (lbr rfl) (fun h => by first | rfl | cases h) rfl) ?_
      refine .opEE (t := 189) (x := (wonB n L2_56) && (decide ((wonS n L) = (wonS n L2_56)))) (p := (((((L2_56).length : Int) == (((L).length : Int) + (1 : Int) : Int)) && (decide ((((mostV (L) (L) 0 : Nat) : Int) : Int) ≤ (((mostV (L2_56) (L2_56) 0 : Nat) : Int) : Int)))) = true) ∧ (!(wonB n L)) = false) (φ := Is (.bool (sameR (wonR n L) (wonR n L2_56)))) rfl (hlc rfl) (st_is _) (fun hg => sp_call2 (φ1 := IsD (SF w (b21_59 :: (b14_49 :: (blks hds9_22 ++ (blks hd_56 ++ (bo49_9 :: (b5_2 :: []))))))) (Rc.d ((wonR n L)))) (φ2 := IsD (SF w (b21_59 :: (b14_49 :: (blks hds9_22 ++ (blks hd_56 ++ (bo49_9 :: (b5_2 :: []))))))) (Rc.d ((wonR n L2_56)))) ent59 (((hlc rfl).undE hg).dat (rdRc_mk D_v107_49_1 (rdV_in (x := (wonR n L).cu) hb_v107_49_4 D_v107_49_5 D_v107_49_6 : Rd W68 (SF w (b21_59 :: (b14_49 :: (blks hds9_22 ++ (blks hd_56 ++ (bo49_9 :: (b5_2 :: []))))))) (V.d ((wonR n L).cu)) _) : Rd W68 (SF w (b21_59 :: (b14_49 :: (blks hds9_22 ++ (blks hd_56 ++ (bo49_9 :: (b5_2 :: []))))))) (Rc.d ((wonR n L))) _) sub_all) (((hlc rfl).undE hg).dat (rdRc_mk D_v126_59_1 (rdV_in (x := (wonR n L2_56).cu) hb_v126_59_4 D_v126_59_5 D_v126_59_6 : Rd W68 (SF w (b21_59 :: (b14_49 :: (blks hds9_22 ++ (blks hd_56 ++ (bo49_9 :: (b5_2 :: []))))))) (V.d ((wonR n L2_56).cu)) _) : Rd W68 (SF w (b21_59 :: (b14_49 :: (blks hds9_22 ++ (blks hd_56 ++ (bo49_9 :: (b5_2 :: []))))))) (Rc.d ((wonR n L2_56))) _) sub_all) (fun g u1 u2 W hk hgk h1 h2 => SameR_ok ((wonR n L)) ((wonR n L2_56)) (wonR_wt hok) (wonR_wt hok_L2_56) W _ _ _ (fun b o h => h.1.2.1) h1 h2)) ?_
      refine .opEE (t := 182) (x := !(wonB n L)) (p := ((((L2_56).length : Int) == (((L).length : Int) + (1 : Int) : Int)) && (decide ((((mostV (L) (L) 0 : Nat) : Int) : Int) ≤ (((mostV (L2_56) (L2_56) 0 : Nat) : Int) : Int)))) = true) (φ := Is (.bool (((wonB n L2_56) && (decide ((wonS n L) = (wonS n L2_56)))) && (sameR (wonR n L) (wonR n L2_56))))) rfl (hlc rfl) (st_is _) (fun hg => sp_and ((hlc rfl).undE hg) ((hlc rfl).weak fun hq => ⟨hg, hq⟩)) ?_
      refine .e (t := 179) rfl (hlc rfl) (fun hg => sp_or ((hlc rfl).undE hg) ((hlc rfl).weak fun hq => ⟨hg, hq⟩)) ?_
      refine .i (sp_and (hlc rfl) ((hlc rfl).weak fun hq => hq)) ?_
      refine .i (sp_assign (hlc rfl)) ?_
      refine .done ⟨by kernel_rfl, fun a72 g W72 y72 zz72 hk hg hV hR hP => ?_⟩
      obtain ⟨e6, -, -, -, -, -, -, -, -, -, -, -, -, -, -, -, -, -, -, -, -, -, -, -, -, -, -, -, -, -⟩ := hV
      replace A_56 := A_56.ext hk
      replace As9_22 := As9_22.ext hk
      replace D_v1 := D_v1.ext hk
      replace D_v107_49_1 := D_v107_49_1.ext hk
      replace D_v107_49_5 := D_v107_49_5.ext hk
      replace D_v107_49_6 := D_v107_49_6.ext hk
      replace D_v126_59_1 := D_v126_59_1.ext hk
      replace D_v126_59_5 := D_v126_59_5.ext hk
      replace D_v126_59_6 := D_v126_59_6.ext hk
      replace e6 := e6.q
      replace own_b5_2 := own_b5_2.ext hk
      replace own_bo49_9 := own_bo49_9.ext hk
      replace own_b14_49 := own_b14_49.ext hk
      replace own_b21_59 := own_b21_59.ext hk
      replace kw := kw.x hk
      clear hR hk hg hP
      refine tail_nil (hK71 _ _ ?_)
      refine wp_ret ?_
      refine (show bodyPost Try.prog Try.f8 _ .ret _ _ from ret1 rfl zz72 e6 ⟨_, rfl, kw, ?_⟩)
      refine congrArg Value.bool ?_
      rw [hL3]
      have hmm := mostV_more (L := L) xx
      have hlen : (L ++ [xx]).length = L.length + 1 := by simp
      rw [hlen]
      cases hB : wonB n L with
      | false => simp; omega
      | true => obtain ⟨h1, h2, h3⟩ := won_more xx hB; rw [h1, h2, h3]; simp [sameR_refl]; omega
end Go.Proofs.Ytnobijngkpflcaa
namespace Go.Eng
open Go.ChangeShapes Go.WideShapes Go.ChangeAt Go.RowKit
def Univ : BSet := fun _ _ => True
mutual
def HasT (P : Program) : D → TypeId → Prop
  | .bool _, t => P.underlying t = some .bool
  | .int k n, t => P.underlying t = some (.int k) ∧ (Lit.int k n).wf = true
  | .str s, t => P.underlying t = some .string ∧ s.size ≤ maxLen
  | .lst sz xs, t => ∃ e, P.underlying t = some (.slice e) ∧ sz = P.cellsOf e ∧ HasTL P xs e
  | .agg xs, t => ∃ fs, P.underlying t = some (.struct fs) ∧ HasTF P xs (fs.toList.map (·.type))
def HasTL (P : Program) : List D → TypeId → Prop
  | [], _ => True
  | x :: xs, e => HasT P x e ∧ HasTL P xs e
def HasTF (P : Program) : List D → List TypeId → Prop
  | [], [] => True
  | x :: xs, t :: ts => HasT P x t ∧ HasTF P xs ts
  | _, _ => False
end
theorem hasTL_of {P : Program} {e : TypeId} : ∀ (xs : List D), (∀ i (h : i < xs.length), HasT P xs[i] e) → HasTL P xs e
  | [], _ => by simp [HasTL]
  | x :: xs, h => by
    simp only [HasTL]
    exact ⟨h 0 (by simp), hasTL_of xs fun i hi => h (i + 1) (by simpa using hi)⟩
def offs (P : Program) : List Field → Nat → Option Nat
  | [], o => some o
  | f :: r, o => if f.offset = o then offs P r (o + P.cellsOf f.type) else none
def plain1 (P : Program) (ts : List TypeId) (t : TypeId) : Bool := match P.underlying t with
  | some .bool => true
  | some (.int _) => true
  | some .string => true
  | some (.slice e) => ts.contains e && decide (0 < P.cellsOf e)
  | some (.struct fs) => (fs.toList.all fun f => ts.contains f.type) && decide (offs P fs.toList 0 = some (P.cellsOf t))
  | _ => false
theorem exists_list {α : Type} {p : Nat → α → Prop} : ∀ n : Nat, (∀ i, i < n → ∃ x, p i x) → ∃ xs : List α, xs.length = n ∧ ∀ i (h : i < xs.length), p i xs[i]
  | 0, _ => ⟨[], rfl, fun i h => by simp at h⟩
  | n + 1, h => by
    obtain ⟨xs, hl, hx⟩ := exists_list n fun i hi => h i (by omega)
    obtain ⟨x, hp⟩ := h n (by omega)
    refine ⟨xs ++ [x], by simp [hl], fun i hi => ?_⟩
    by_cases hin : i < n
    · rw [List.getElem_append_left (by omega)]; exact hx i (by omega)
    · have : i = n := by simp at hi; omega
      subst this
      rw [List.getElem_append_right (by omega)]; simpa [hl] using hp
section
variable {H : Type} {enc : TypeId × Value → H} {P : Program} {W : World}
theorem fields_rd {n : Nat} {cs : List Value} {ts : List TypeId} (ih : ∀ t c y, t ∈ ts → DataW.trod enc P W 0 (fun _ => true) true n t c = some y → ∃ d, RdC W Univ d c ∧ HasT P d t) :
    ∀ (fs : List Field) (o : Nat), offs P fs o = some cs.length → (∀ f ∈ fs, f.type ∈ ts) → (∀ f ∈ fs, ∃ y, DataW.trod enc P W 0 (fun _ => true) true n f.type ((cs.drop f.offset).take (P.cellsOf f.type)) = some y) →
      ∃ ds, RdF W Univ ds (cs.drop o) ∧ HasTF P ds (fs.map (·.type))
  | [], o, ho, _, _ => by
    simp only [offs, Option.some.injEq] at ho
    subst ho
    exact ⟨[], by simp [RdF], by simp [HasTF]⟩
  | f :: fs, o, ho, hm, hr => by
    simp only [offs] at ho
    split at ho
    · rename_i hoff
      subst hoff
      obtain ⟨ds, h1, h2⟩ := fields_rd ih fs _ ho (fun g hg => hm g (List.mem_cons_of_mem _ hg)) (fun g hg => hr g (List.mem_cons_of_mem _ hg))
      obtain ⟨y, hy⟩ := hr f List.mem_cons_self
      obtain ⟨d, h3, h4⟩ := ih _ _ _ (hm f List.mem_cons_self) hy
      refine ⟨d :: ds, ?_, by simp only [List.map_cons, HasTF]; exact ⟨h4, h2⟩⟩
      simp only [RdF]
      exact ⟨_, _, by rw [← List.drop_drop]; exact (List.take_append_drop _ _).symm, h3, h1⟩
    · cases ho
theorem trod_rd {ts : List TypeId} (hp : (ts.all (plain1 P ts)) = true) : ∀ (n : Nat) (t : TypeId) (cs : List Value) (y : DataW H × List MemPlace), t ∈ ts → DataW.trod enc P W 0 (fun _ => true) true n t cs = some y → ∃ d, RdC W Univ d cs ∧ HasT P d t := by
  intro n
  induction n with
  | zero => intro t cs y _ h; simp [DataW.trod] at h
  | succ n ih =>
    intro t cs y ht h
    have hpt := List.all_eq_true.1 hp t ht
    unfold plain1 at hpt
    split at hpt
    · rename_i hu
      obtain ⟨b, rfl, _⟩ := DataW.trod_bool hu h
      exact ⟨.bool b, by simp [RdC], by simp [HasT, hu]⟩
    · rename_i k hu
      obtain ⟨b, rfl, _, hw⟩ := DataW.trod_int hu h
      exact ⟨.int k b, by simp [RdC], by simp [HasT, hu, hw]⟩
    · rename_i hu
      obtain ⟨s, rfl, _, hw⟩ := DataW.trod_string hu h
      exact ⟨.str s, by simp [RdC, hw], by simp [HasT, hu, hw]⟩
    · rename_i e hu
      simp only [Bool.and_eq_true, decide_eq_true_eq] at hpt
      have het : e ∈ ts := by simpa using hpt.1
      rcases DataW.trod_slice hu h with ⟨rfl, _⟩ | ⟨a, len, cap, elems, rest, n', hn', rfl, _, _, hlc, hcm, hle, hel, _⟩
      · exact ⟨.lst (P.cellsOf e) [], by simp only [RdC]; exact ⟨none, 0, rfl, by simp, by simp, .inl trivial⟩, by simp only [HasT]; exact ⟨e, hu, rfl, by simp [HasTL]⟩⟩
      · have hnn : n' = n := by omega
        subst hnn
        have each : ∀ i, i < len → ∃ d, (∃ c, c.length = P.cellsOf e ∧ CellsAt W a.block (a.off + i * P.cellsOf e) c ∧ RdC W Univ d c) ∧ HasT P d e := by
          intro i hi
          have h1 := hel i hi
          rw [List.getElem?_eq_getElem (by omega), Option.bind_eq_some_iff] at h1
          obtain ⟨c, hc, hy⟩ := h1
          obtain ⟨d, h2, h3⟩ := ih e c _ het hy
          obtain ⟨_, hlen, hcell⟩ := World.cells?_some hc
          have hoff : ∀ j, W.cell? ((a.add (i * P.cellsOf e)).add j) = none ∨ (a.add (i * P.cellsOf e)).add j = ⟨a.block, a.off + i * P.cellsOf e + j, none⟩ := by
            intro j
            by_cases hsp : (a.add (i * P.cellsOf e)).spot.isSome = true ∧ j = 0
            · left
              obtain ⟨h4, rfl⟩ := hsp
              have : ((a.add (i * P.cellsOf e)).add 0) = a.add (i * P.cellsOf e) := by simp [Addr.add]
              rw [this]
              unfold World.cell?
              split <;> simp [h4]
            · right
              unfold Addr.add at hsp ⊢
              by_cases h0 : i * P.cellsOf e = 0
              · simp only [h0, if_true] at hsp ⊢
                by_cases hj : j = 0
                · subst hj
                  simp at hsp
                  cases a; simp_all
                · simp [hj]
              · simp only [h0, if_false] at hsp ⊢
                by_cases hj : j = 0 <;> simp [hj]
          refine ⟨d, ⟨c, hlen, fun j hj => ?_, h2⟩, h3⟩
          have h5 := hcell j (by omega)
          rw [List.getElem?_eq_getElem hj] at h5
          rcases hoff j with h6 | h6
          · rw [h6] at h5; cases h5
          · rw [h6] at h5; exact h5
        obtain ⟨ds, hdl, hd⟩ := exists_list len each
        refine ⟨.lst (P.cellsOf e) ds, ?_, by simp only [HasT]; exact ⟨e, hu, rfl, hasTL_of ds fun i hi => (hd i hi).2⟩⟩
        simp only [RdC]
        refine ⟨some a, cap, by rw [hdl], by omega, hcm, ?_⟩
        by_cases h0 : len = 0
        · left; exact List.length_eq_zero_iff.1 (by omega)
        · right
          obtain ⟨c, hcl, hc, _⟩ := (hd 0 (by omega)).1
          have hc0 := hc 0 (by omega)
          have hsp : a.spot = none := by
            have h1 := hel 0 (by omega)
            rw [List.getElem?_eq_getElem (by omega), Option.bind_eq_some_iff] at h1
            obtain ⟨c', hc', _⟩ := h1
            have h2 := (World.cells?_some hc').2.2 0 hpt.2
            have h3 := (World.cells?_some hc').2.1
            rw [List.getElem?_eq_getElem (by omega)] at h2
            simp only [Nat.zero_mul, Addr.add, if_true] at h2
            unfold World.cell? at h2
            split at h2
            · split at h2
              · cases h2
              · rename_i hs; simpa using hs
            · cases h2
          have hblk : a.block < W.heap.size := by
            simp only [Nat.zero_mul, Nat.add_zero] at hc0
            unfold World.cell? at hc0
            split at hc0
            · rename_i hq; exact (Array.getElem?_eq_some_iff.1 hq).1
            · cases hc0
          exact ⟨a.block, a.off, by cases a; simp_all, trivial, hblk, RdL.of fun i hi => (hd i hi).1⟩
    · rename_i fs hu
      simp only [Bool.and_eq_true, decide_eq_true_eq, List.all_eq_true] at hpt
      obtain ⟨xs, n', hn', _, hlen, hxl, hfs⟩ := DataW.trod_struct hu h
      have hnn : n' = n := by omega
      subst hnn
      obtain ⟨ds, h1, h2⟩ := fields_rd (cs := cs) ih fs.toList 0 (by rw [hlen]; exact hpt.2) (fun f hf => by simpa using hpt.1 f hf) (fun f hf => by
        obtain ⟨i, hi⟩ := List.getElem?_of_mem hf
        have hi' : fs[i]? = some f := by simpa using hi
        have hil : i < fs.size := (Array.getElem?_eq_some_iff.1 hi').1
        exact ⟨xs[i], by rw [hfs i f hi']; exact List.getElem?_eq_getElem (by omega)⟩)
      exact ⟨.agg ds, by simpa [RdC] using h1, by simp only [HasT]; exact ⟨fs, hu, h2⟩⟩
    · cases hpt
theorem arg_struct {ts : List TypeId} {t : TypeId} {fs : Array Field} {v : Value} {d : DataW H} {ps : List MemPlace} {base : Nat} (hp : (ts.all (plain1 P ts)) = true) (ht : t ∈ ts) (hu : P.underlying t = some (.struct fs)) (hval : Value.okWide P W .any base t v)
    (h : DataW.Trod enc P W 0 (fun _ => true) true t v d ps) : ∃ dd, Rd W Univ dd v ∧ HasT P dd t := by
  obtain ⟨n, h⟩ := h
  obtain ⟨dd, h1, h2⟩ := trod_rd hp n t _ _ ht h
  refine ⟨dd, ⟨_, h1, ?_⟩, h2⟩
  unfold Value.okWide at hval
  rw [hu] at hval
  obtain ⟨cs, rfl, _⟩ := hval
  cases dd with
  | agg xs => simp [asm, Value.cells]
  | bool b => simp [HasT, hu] at h2
  | int k m => simp [HasT, hu] at h2
  | str s => simp [HasT, hu] at h2
  | lst sz xs => simp [HasT, hu] at h2
theorem hasT_strs {t : TypeId} (hs : P.underlying t = some .string) : ∀ xs : List D, HasTL P xs t → ∃ ns : List ByteArray, xs = ns.map D.str
  | [], _ => ⟨[], rfl⟩
  | x :: xs, h => by
    simp only [HasTL] at h
    obtain ⟨ns, rfl⟩ := hasT_strs hs xs h.2
    cases x with
    | str s => exact ⟨s :: ns, rfl⟩
    | bool b => simp [HasT, hs] at h
    | int k m => simp [HasT, hs] at h
    | lst sz xs => simp [HasT, hs] at h
    | agg xs => simp [HasT, hs] at h
structure VT (P : Program) (tV tK tN tS tNs tXs : TypeId) : Prop where
  v : ((P.underlying tV).bind fun | .struct fs => some (fs.toList.map (·.type)) | _ => none) = some [tK, tN, tS, tNs, tXs]
  k : P.underlying tK = some (.int .u8)
  n : P.underlying tN = some (.int .i64)
  s : P.underlying tS = some .string
  ns : P.underlying tNs = some (.slice tS)
  xs : P.underlying tXs = some (.slice tV)
  c1 : P.cellsOf tS = 1
  c5 : P.cellsOf tV = 5
theorem hasT_int {t : TypeId} {k : IntKind} (hu : P.underlying t = some (.int k)) : ∀ d : D, HasT P d t → ∃ n, d = .int k n ∧ (Lit.int k n).wf = true
  | .int k' n, h => by simp only [HasT, hu, Option.some.injEq, TypeDesc.int.injEq] at h; obtain ⟨rfl, h⟩ := h; exact ⟨n, rfl, h⟩
  | .bool b, h => by simp [HasT, hu] at h
  | .str s, h => by simp [HasT, hu] at h
  | .lst sz xs, h => by simp [HasT, hu] at h
  | .agg xs, h => by simp [HasT, hu] at h
theorem hasT_str {t : TypeId} (hu : P.underlying t = some .string) : ∀ d : D, HasT P d t → ∃ s, d = .str s ∧ s.size ≤ maxLen
  | .str s, h => by simp only [HasT] at h; exact ⟨s, rfl, h.2⟩
  | .bool b, h => by simp [HasT, hu] at h
  | .int k n, h => by simp [HasT, hu] at h
  | .lst sz xs, h => by simp [HasT, hu] at h
  | .agg xs, h => by simp [HasT, hu] at h
theorem hasT_lst {t e : TypeId} (hu : P.underlying t = some (.slice e)) : ∀ d : D, HasT P d t → ∃ xs, d = .lst (P.cellsOf e) xs ∧ HasTL P xs e
  | .lst sz xs, h => by
    simp only [HasT, hu, Option.some.injEq, TypeDesc.slice.injEq] at h
    obtain ⟨e', rfl, rfl, h⟩ := h
    exact ⟨xs, rfl, h⟩
  | .bool b, h => by simp [HasT, hu] at h
  | .int k n, h => by simp [HasT, hu] at h
  | .str s, h => by simp [HasT, hu] at h
  | .agg xs, h => by simp [HasT, hu] at h
theorem hasT_agg {t : TypeId} {ts : List TypeId} (hu : ((P.underlying t).bind fun | .struct fs => some (fs.toList.map (·.type)) | _ => none) = some ts) : ∀ d : D, HasT P d t → ∃ xs, d = .agg xs ∧ HasTF P xs ts
  | .agg xs, h => by
    simp only [HasT] at h
    obtain ⟨fs, h1, h2⟩ := h
    rw [h1] at hu
    simp only [Option.bind_some, Option.some.injEq] at hu
    subst hu
    exact ⟨xs, rfl, h2⟩
  | .bool b, h => by simp only [HasT] at h; rw [h] at hu; simp at hu
  | .int k n, h => by simp only [HasT] at h; rw [h.1] at hu; simp at hu
  | .str s, h => by simp only [HasT] at h; rw [h.1] at hu; simp at hu
  | .lst sz xs, h => by simp only [HasT] at h; obtain ⟨e, h1, _⟩ := h; rw [h1] at hu; simp at hu
theorem hasV {tV tK tN tS tNs tXs : TypeId} (q : VT P tV tK tN tS tNs tXs) : ∀ (n : Nat) (d : D), SizeOf.sizeOf d < n → HasT P d tV → ∃ x : V, d = x.d := by
  intro n
  induction n with
  | zero => intro d h; omega
  | succ n ih =>
    intro d hn h
    obtain ⟨xs, rfl, hf⟩ := hasT_agg q.v d h
    match xs, hf with
    | [a, b, c, e, f], hf =>
      simp only [HasTF] at hf
      obtain ⟨ha, hb, hc, he, hf, -⟩ := hf
      obtain ⟨k, rfl, hk⟩ := hasT_int q.k _ ha
      obtain ⟨m, rfl, hm⟩ := hasT_int q.n _ hb
      obtain ⟨t, rfl, _⟩ := hasT_str q.s _ hc
      obtain ⟨l1, rfl, h1⟩ := hasT_lst q.ns _ he
      obtain ⟨l2, rfl, h2⟩ := hasT_lst q.xs _ hf
      obtain ⟨ns, rfl⟩ := hasT_strs q.s l1 h1
      have key : ∀ l : List D, SizeOf.sizeOf l < n → HasTL P l tV → ∃ ys : List V, l = ys.map V.d := by
        intro l
        induction l with
        | nil => intro _ _; exact ⟨[], rfl⟩
        | cons x l ihl =>
          intro hl hx
          simp only [HasTL] at hx
          simp only [List.cons.sizeOf_spec] at hl
          obtain ⟨y, rfl⟩ := ih x (by omega) hx.1
          obtain ⟨ys, rfl⟩ := ihl (by omega) hx.2
          exact ⟨y :: ys, rfl⟩
      obtain ⟨ys, rfl⟩ := key l2 (by
        simp only [D.agg.sizeOf_spec, List.cons.sizeOf_spec, D.lst.sizeOf_spec] at hn
        omega) h2
      refine ⟨V.mk k.toNat m t ns ys, ?_⟩
      have hk0 : (k.toNat : Int) = k := by
        simp only [Lit.wf, Bool.and_eq_true, decide_eq_true_eq] at hk
        have h0 : IntKind.min .u8 = 0 := by decide
        have : (0 : Int) ≤ k := by have := hk.1; rw [h0] at this; exact this
        omega
      rw [V.d_eq]
      simp only [V.k, V.n, V.t, V.ns, V.xs, hk0, q.c1, q.c5, strsD, valsD]
    | [], hf => simp [HasTF] at hf
    | [_], hf => simp [HasTF] at hf
    | [_, _], hf => simp [HasTF] at hf
    | [_, _, _], hf => simp [HasTF] at hf
    | [_, _, _, _], hf => simp [HasTF] at hf
    | _ :: _ :: _ :: _ :: _ :: _ :: _, hf => simp [HasTF] at hf
theorem trodAll_stays (hl : laidOutB P = true) {W' : World} (hb : Below W.heap.size W W') : ∀ (ts : List TypeId) (vs : List Value) (ds : List (DataW H)) (ps : List MemPlace), (∀ t ∈ ts, P.readableRec t = true ∧ t < P.types.size) → (∀ x ∈ ps, x.block < W.heap.size) →
    DataW.TrodAll enc P W 0 (fun _ => true) true ts vs ds ps → DataW.TrodAll enc P W' 0 (fun b => decide (b < W.heap.size)) true ts vs ds ps
  | [], [], [], _, _, _, h => h
  | t :: ts, v :: vs, d :: ds, ps, ht, hlt, h => by
    obtain ⟨p, q, h1, h2, rfl⟩ := h
    exact ⟨p, q, Below.trod hl (ht t List.mem_cons_self).1 (ht t List.mem_cons_self).2 h1 hb (fun x hx => hlt x (List.mem_append_left _ hx)),
      trodAll_stays hl hb ts vs ds q (fun t h => ht t (List.mem_cons_of_mem _ h)) (fun x hx => hlt x (List.mem_append_right _ hx)) h2, rfl⟩
  | [], [], _ :: _, _, _, _, h => h.elim
  | [], _ :: _, _, _, _, _, h => h.elim
  | _ :: _, [], _, _, _, _, h => h.elim
  | _ :: _, _ :: _, [], _, _, _, h => h.elim
theorem law_post {f : Func} {s : ChangeSpec} {W' : World} {args : Array Value} {ds gs : List (DataW H)} {before : List MemPlace} {tb : TypeId} (hl : laidOutB P = true) (hpar : ∀ t ∈ f.params.toList, P.readableRec t = true ∧ t < P.types.size)
    (hvars : s.vars = []) (hrt : f.resultTypes = #[tb]) (hb : P.underlying tb = some .bool) (hfn : s.fn H (ds ++ gs) = { results := [.lit (.bool true)], args := ds })
    (hW : DataW.Whole enc P f.params.toList s.vars false W args.toList ds gs before) (hk : Ext W W') : s.post enc P f false true false false W args (.bool true) W' := by
  have hlt := hW.lt
  have hW' := hW
  obtain ⟨p, q, hA, hV, rfl, hfz, hnd⟩ := hW
  have hbel : Below W.heap.size W W' := ⟨hk.os, hk.tape, hk.output, hk.size, fun k h => hk.block k h trivial⟩
  refine ⟨ds, gs, p ++ q, [], p, [], hW', ?_, ?_, ?_, ?_, fun h => by cases h⟩
  · rw [hfn, hrt]
    exact ⟨[], [], ⟨1, by simp [Value.resultList, Value.cells, DataW.trod, hb]⟩, rfl, rfl⟩
  · rw [hfn]
    exact trodAll_stays hl hbel _ _ _ _ hpar (fun x hx => hlt x (List.mem_append_left _ hx)) hA
  · rw [hfn, hvars]; rfl
  · refine ⟨hk.os, hk.output, fun i hi => ?_⟩
    rw [hk.block i hi trivial]
    cases hq : W.heap[i]? with
    | none => rfl
    | some o => cases o <;> simp
end
end Go.Eng
namespace Go.Eng
open Go.ChangeShapes Go.WideShapes Go.ChangeAt Go.RowKit
theorem arg_slice {H : Type} {enc : TypeId × Value → H} {P : Program} {W : World} {ts : List TypeId} {t e : TypeId} {v : Value} {d : DataW H} {ps : List MemPlace} {base : Nat} (hp : (ts.all (plain1 P ts)) = true) (ht : t ∈ ts) (hu : P.underlying t = some (.slice e)) (hval : Value.okWide P W .any base t v)
    (h : DataW.Trod enc P W 0 (fun _ => true) true t v d ps) : ∃ dd, Rd W Univ dd v ∧ HasT P dd t := by
  obtain ⟨n, h⟩ := h
  obtain ⟨dd, h1, h2⟩ := trod_rd hp n t _ _ ht h
  refine ⟨dd, ⟨_, h1, ?_⟩, h2⟩
  unfold Value.okWide at hval
  rw [hu] at hval
  simp only [Cell.okWide, hu, Cell.ok] at hval
  have hc : v.cells.toList = [v] := by
    cases v <;> first | rfl | (exfalso; simp at hval)
  rw [hc]
  cases dd with
  | agg xs => simp [HasT, hu] at h2
  | bool b => rfl
  | int k m => rfl
  | str s => rfl
  | lst sz xs => rfl
structure HsT (P : Program) (tL tH tS : TypeId) : Prop where
  l : P.underlying tL = some (.slice tH)
  v : ((P.underlying tH).bind fun | .struct fs => some (fs.toList.map (·.type)) | _ => none) = some [tS, tS]
  s : P.underlying tS = some .string
  c : P.cellsOf tH = 2
theorem hasHs {P : Program} {tL tH tS : TypeId} (q : HsT P tL tH tS) (d : D) (h : HasT P d tH) : ∃ a : Hs, d = a.d := by
  obtain ⟨xs, rfl, hf⟩ := hasT_agg q.v d h
  match xs, hf with
  | [a, b], hf =>
    simp only [HasTF] at hf
    obtain ⟨ha, hb, -⟩ := hf
    obtain ⟨s, rfl, _⟩ := hasT_str q.s _ ha
    obtain ⟨t, rfl, _⟩ := hasT_str q.s _ hb
    exact ⟨⟨s, t⟩, rfl⟩
  | [], hf => simp [HasTF] at hf
  | [_], hf => simp [HasTF] at hf
  | _ :: _ :: _ :: _, hf => simp [HasTF] at hf
theorem hasHss {P : Program} {tL tH tS : TypeId} (q : HsT P tL tH tS) : ∀ (xs : List D), HasTL P xs tH → ∃ l : List Hs, xs = l.map Hs.d
  | [], _ => ⟨[], rfl⟩
  | x :: xs, h => by
    simp only [HasTL] at h
    obtain ⟨a, rfl⟩ := hasHs q x h.1
    obtain ⟨l, rfl⟩ := hasHss q xs h.2
    exact ⟨a :: l, rfl⟩
end Go.Eng
namespace Go.Eng
open Go.ChangeShapes Go.WideShapes Go.ChangeAt Go.RowKit
def AtW (w : World) : BSet := fun b o => o = w.heap[b]?
theorem rd_atW {w : World} {d : D} {v : Value} (h : Rd w Univ d v) : Rd w (AtW w) d v :=
  let ⟨cs, h1, h2⟩ := h; ⟨cs, rdc_move (S' := AtW w) (Nat.le_refl _) (fun _ _ _ => ⟨rfl, rfl⟩) _ _ h1, h2⟩
theorem pin_atW (w : World) : Pin w (AtW w) := fun _ _ h _ => h
def offsOf (P : Program) (t : TypeId) : Option (List (Nat × TypeId)) := (P.underlying t).bind fun | .struct fs => some (fs.toList.map fun f => (f.offset, f.type)) | _ => none
structure VO (P : Program) (tV tK tN tS tNs tXs : TypeId) : Prop where
  v : offsOf P tV = some [(0, tK), (1, tN), (2, tS), (3, tNs), (4, tXs)]
  xs : P.underlying tXs = some (.slice tV)
  c1 : P.cellsOf tXs = 1
  c5 : P.cellsOf tV = 5
section
variable {H : Type} {enc : TypeId × Value → H} {P : Program} {W : World}
def NoF (W : World) (ps : List MemPlace) : Prop := ∀ b off, MemPlace.cell b off ∈ ps → W.frozen? ⟨b, off, none⟩ = false
theorem trod_f4 {tV tK tN tS tNs tXs : TypeId} (q : VO P tV tK tN tS tNs tXs) {n : Nat} {c : List Value} {y : DataW H × List MemPlace} (h : DataW.trod enc P W 0 (fun _ => true) true n tV c = some y) (hy : NoF W y.2) :
    ∃ n' cc z, c[4]? = some cc ∧ DataW.trod enc P W 0 (fun _ => true) true n' tXs [cc] = some z ∧ NoF W z.2 := by
  have hv := q.v
  unfold offsOf at hv
  cases hu : P.underlying tV with
  | none => rw [hu] at hv; cases hv
  | some td =>
    rw [hu] at hv
    cases td with
    | struct fs =>
      simp only [Option.bind_some, Option.some.injEq] at hv
      obtain ⟨xs, n', hn', hx, hlen, hxl, hfs⟩ := DataW.trod_struct hu h
      have h4 : (fs.toList.map fun f => (f.offset, f.type))[4]? = some (4, tXs) := by rw [hv]; rfl
      rw [List.getElem?_map] at h4
      cases hf : fs.toList[4]? with
      | none => rw [hf] at h4; cases h4
      | some f =>
        rw [hf] at h4
        simp only [Option.map_some, Option.some.injEq, Prod.mk.injEq] at h4
        have h5 := hfs 4 f (by simpa using hf)
        rw [h4.1, h4.2, q.c1] at h5
        have hcl : c.length = 5 := hlen.trans q.c5
        have hsz : 4 < fs.size := by
          have := (List.getElem?_eq_some_iff.1 hf).1
          simpa using this
        have hx4 : 4 < xs.length := by omega
        rw [List.getElem?_eq_getElem hx4] at h5
        have hd : (c.drop 4).take 1 = [c[4]'(by omega)] := by
          rw [List.drop_eq_getElem_cons (by omega)]; rfl
        rw [hd] at h5
        refine ⟨n', c[4]'(by omega), xs[4], by simp, h5, fun b off hm => hy b off ?_⟩
        rw [hx]
        exact List.mem_flatMap.2 ⟨_, List.getElem_mem hx4, hm⟩
    | _ => simp at hv
theorem nv_slice {tV tK tN tS tNs tXs : TypeId} (q : VO P tV tK tN tS tNs tXs) : ∀ (m n : Nat) (v : Value) (y : DataW H × List MemPlace), DataW.trod enc P W 0 (fun _ => true) true n tXs [v] = some y → NoF W y.2 → NV W m v
  | 0, _, _, _, _, _ => trivial
  | m + 1, n, v, y, h, hy => by
    intro a len cap hv i hi
    subst hv
    rcases DataW.trod_slice q.xs h with ⟨h1, _⟩ | ⟨a', len', cap', elems, rest, n', hn', hcs, hx, _, hlc, hcm, hle, hel, _⟩
    · simp at h1
    · simp only [List.cons.injEq, Value.slice.injEq, Option.some.injEq, and_true] at hcs
      obtain ⟨rfl, rfl, rfl⟩ := hcs
      have h1 := hel i hi
      rw [List.getElem?_eq_getElem (by omega), Option.bind_eq_some_iff] at h1
      obtain ⟨c, hc, ht⟩ := h1
      obtain ⟨_, hcl, hcell⟩ := World.cells?_some hc
      rw [q.c5] at hcl hcell
      have hmem : NoF W (elems[i]'(by omega)).2 := fun b off hm => hy b off (by
        rw [hx]
        exact List.mem_append_right _ (List.mem_flatMap.2 ⟨_, List.mem_append_left _ (List.getElem_mem _), hm⟩))
      obtain ⟨n2, cc, z, h4, h5, h6⟩ := trod_f4 q ht hmem
      have hcc := hcell 4 (by omega)
      have had : ((a.add (i * 5)).add 4) = ⟨a.block, a.off + i * 5 + 4, none⟩ := by
        unfold Addr.add
        by_cases h0 : i * 5 = 0 <;> simp [h0]
      rw [had, h4] at hcc
      refine ⟨?_, hy _ _ ?_, fun c2 hc2 => ?_⟩
      · unfold World.cell? at hcc
        split at hcc
        · rename_i hq; exact (Array.getElem?_eq_some_iff.1 hq).1
        · cases hcc
      · rw [hx]
        refine List.mem_append_left _ (List.mem_map.2 ⟨i * 5, List.mem_range.2 ?_, rfl⟩)
        rw [q.c5]
        have : i * 5 < elems.length * 5 := by omega
        have h9 : elems.length * 5 ≤ (elems.length + rest.length) * 5 := Nat.mul_le_mul_right _ (by omega)
        omega
      · rw [hcc] at hc2
        cases hc2
        exact nv_slice q m n2 _ _ h5 h6
end
end Go.Eng
namespace Go.Eng
open Go.ChangeShapes Go.WideShapes Go.ChangeAt Go.RowKit
structure RcT (P : Program) (tR tN tHs tV : TypeId) : Prop where
  v : ((P.underlying tR).bind fun | .struct fs => some (fs.toList.map (·.type)) | _ => none) = some [tN, tHs, tV]
  n : P.underlying tN = some (.int .i64)
  o : offsOf P tR = some [(0, tN), (1, tHs), (2, tV)]
  c7 : P.cellsOf tR = 7
structure ToT (P : Program) (tL tT tS tR : TypeId) : Prop where
  l : P.underlying tL = some (.slice tT)
  v : ((P.underlying tT).bind fun | .struct fs => some (fs.toList.map (·.type)) | _ => none) = some [tS, tR]
  s : P.underlying tS = some .string
  o : offsOf P tT = some [(0, tS), (1, tR)]
  c8 : P.cellsOf tT = 8
section
variable {P : Program} {tL tT tS tR tN tHs tH tV tK tNs tXs : TypeId}
theorem hasRc (q : RcT P tR tN tHs tV) (qh : HsT P tHs tH tS) (qv : VT P tV tK tN tS tNs tXs) (d : D) (h : HasT P d tR) : ∃ a : Rc, d = a.d := by
  obtain ⟨xs, rfl, hf⟩ := hasT_agg q.v d h
  match xs, hf with
  | [a, b, c], hf =>
    simp only [HasTF] at hf
    obtain ⟨ha, hb, hc, -⟩ := hf
    obtain ⟨n, rfl, _⟩ := hasT_int q.n _ ha
    obtain ⟨l, rfl, h1⟩ := hasT_lst qh.l _ hb
    obtain ⟨hs, rfl⟩ := hasHss qh l h1
    obtain ⟨x, rfl⟩ := hasV qv _ c (Nat.lt_succ_self _) hc
    refine ⟨⟨n, hs, x⟩, ?_⟩
    simp only [Rc.d, hssD, qh.c]
  | [], hf => simp [HasTF] at hf
  | [_], hf => simp [HasTF] at hf
  | [_, _], hf => simp [HasTF] at hf
  | _ :: _ :: _ :: _ :: _, hf => simp [HasTF] at hf
theorem hasTo (q : ToT P tL tT tS tR) (qr : RcT P tR tN tHs tV) (qh : HsT P tHs tH tS) (qv : VT P tV tK tN tS tNs tXs) (d : D) (h : HasT P d tT) : ∃ a : To, d = a.d := by
  obtain ⟨xs, rfl, hf⟩ := hasT_agg q.v d h
  match xs, hf with
  | [a, b], hf =>
    simp only [HasTF] at hf
    obtain ⟨ha, hb, -⟩ := hf
    obtain ⟨s, rfl, _⟩ := hasT_str q.s _ ha
    obtain ⟨r, rfl⟩ := hasRc qr qh qv b hb
    exact ⟨⟨s, r⟩, rfl⟩
  | [], hf => simp [HasTF] at hf
  | [_], hf => simp [HasTF] at hf
  | _ :: _ :: _ :: _, hf => simp [HasTF] at hf
theorem hasTos (q : ToT P tL tT tS tR) (qr : RcT P tR tN tHs tV) (qh : HsT P tHs tH tS) (qv : VT P tV tK tN tS tNs tXs) : ∀ (xs : List D), HasTL P xs tT → ∃ l : List To, xs = l.map To.d
  | [], _ => ⟨[], rfl⟩
  | x :: xs, h => by
    simp only [HasTL] at h
    obtain ⟨a, rfl⟩ := hasTo q qr qh qv x h.1
    obtain ⟨l, rfl⟩ := hasTos q qr qh qv xs h.2
    exact ⟨a :: l, rfl⟩
variable {H : Type} {enc : TypeId × Value → H} {W : World}
theorem arg_To (q : ToT P tL tT tS tR) (qr : RcT P tR tN tHs tV) (qh : HsT P tHs tH tS) (qv : VT P tV tK tN tS tNs tXs) {ts : List TypeId} {fs : Array Field} {v : Value} {d : DataW H} {ps : List MemPlace} {base : Nat} (hp : (ts.all (plain1 P ts)) = true) (ht : tT ∈ ts) (hu : P.underlying tT = some (.struct fs)) (hval : Value.okWide P W .any base tT v)
    (h : DataW.Trod enc P W 0 (fun _ => true) true tT v d ps) : ∃ a : To, Rd W Univ a.d v := by
  obtain ⟨dd, h1, h2⟩ := arg_struct hp ht hu hval h
  obtain ⟨a, rfl⟩ := hasTo q qr qh qv dd h2
  exact ⟨a, h1⟩
theorem arg_Tos (q : ToT P tL tT tS tR) (qr : RcT P tR tN tHs tV) (qh : HsT P tHs tH tS) (qv : VT P tV tK tN tS tNs tXs) {ts : List TypeId} {e : TypeId} {v : Value} {d : DataW H} {ps : List MemPlace} {base : Nat} (hp : (ts.all (plain1 P ts)) = true) (ht : tL ∈ ts) (hu : P.underlying tL = some (.slice e)) (hval : Value.okWide P W .any base tL v)
    (h : DataW.Trod enc P W 0 (fun _ => true) true tL v d ps) : ∃ l : List To, Rd W Univ (tosD l) v := by
  obtain ⟨dd, h1, h2⟩ := arg_slice hp ht hu hval h
  obtain ⟨xs, rfl, h3⟩ := hasT_lst q.l dd h2
  obtain ⟨l, rfl⟩ := hasTos q qr qh qv xs h3
  exact ⟨l, by rw [q.c8] at h1; exact h1⟩
theorem trod_fld {t0 t : TypeId} {L : List (Nat × TypeId)} (hv : offsOf P t0 = some L) {i off : Nat} (hi : L[i]? = some (off, t)) {n : Nat} {c : List Value} {y : DataW H × List MemPlace} (h : DataW.trod enc P W 0 (fun _ => true) true n t0 c = some y) (hy : NoF W y.2) :
    ∃ n' z, DataW.trod enc P W 0 (fun _ => true) true n' t ((c.drop off).take (P.cellsOf t)) = some z ∧ NoF W z.2 := by
  unfold offsOf at hv
  cases hu : P.underlying t0 with
  | none => rw [hu] at hv; cases hv
  | some td =>
    rw [hu] at hv
    cases td with
    | struct fs =>
      simp only [Option.bind_some, Option.some.injEq] at hv
      obtain ⟨xs, n', hn', hx, hlen, hxl, hfs⟩ := DataW.trod_struct hu h
      have h4 : (fs.toList.map fun f => (f.offset, f.type))[i]? = some (off, t) := by rw [hv]; exact hi
      rw [List.getElem?_map] at h4
      cases hf : fs.toList[i]? with
      | none => rw [hf] at h4; cases h4
      | some f =>
        rw [hf] at h4
        simp only [Option.map_some, Option.some.injEq, Prod.mk.injEq] at h4
        have h5 := hfs i f (by simpa using hf)
        rw [h4.1, h4.2] at h5
        have hsz : i < fs.size := by
          have := (List.getElem?_eq_some_iff.1 hf).1
          simpa using this
        have hx4 : i < xs.length := by omega
        rw [List.getElem?_eq_getElem hx4] at h5
        refine ⟨n', xs[i], h5, fun b off hm => hy b off ?_⟩
        rw [hx]
        exact List.mem_flatMap.2 ⟨_, List.getElem_mem hx4, hm⟩
    | _ => simp at hv
theorem av_c7 (q : ToT P tL tT tS tR) (qr : RcT P tR tN tHs tV) (qo : VO P tV tK tN tS tNs tXs) {n : Nat} {c0 c1 c2 c3 c4 c5 c6 c7 : Value} {y : DataW H × List MemPlace} (h : DataW.trod enc P W 0 (fun _ => true) true n tT [c0, c1, c2, c3, c4, c5, c6, c7] = some y) (hy : NoF W y.2) : AV W c7 := by
  obtain ⟨n1, z1, h1, hz1⟩ := trod_fld q.o (i := 1) rfl h hy
  rw [qr.c7] at h1
  obtain ⟨n2, z2, h2, hz2⟩ := trod_fld qr.o (i := 2) rfl h1 hz1
  rw [qo.c5] at h2
  obtain ⟨n3, cc, z3, h3, h4, h5⟩ := trod_f4 qo h2 hz2
  simp at h3
  subst h3
  exact fun m => nv_slice qo m n3 _ _ h4 h5
theorem arg_AVt (q : ToT P tL tT tS tR) (qr : RcT P tR tN tHs tV) (qo : VO P tV tK tN tS tNs tXs) {v : Value} {d : DataW H} {ps : List MemPlace} (h : DataW.Trod enc P W 0 (fun _ => true) true tT v d ps) (hp : NoF W ps) : AVt W v := by
  obtain ⟨n, h⟩ := h
  intro c0 c1 c2 c3 c4 c5 c6 c7 hv
  subst hv
  exact av_c7 q qr qo (by simpa [Value.cells] using h) hp
theorem arg_AVts (q : ToT P tL tT tS tR) (qr : RcT P tR tN tHs tV) (qo : VO P tV tK tN tS tNs tXs) {v : Value} {d : DataW H} {ps : List MemPlace} (h : DataW.Trod enc P W 0 (fun _ => true) true tL v d ps) (hp : NoF W ps) : AVts W v := by
  obtain ⟨n, h⟩ := h
  intro a len cap hv i hi
  subst hv
  rcases DataW.trod_slice q.l (by simpa [Value.cells] using h) with ⟨h1, _⟩ | ⟨a', len', cap', elems, rest, n', hn', hcs, hx, _, hlc, hcm, hle, hel, _⟩
  · simp at h1
  · simp only [List.cons.injEq, Value.slice.injEq, Option.some.injEq, and_true] at hcs
    obtain ⟨rfl, rfl, rfl⟩ := hcs
    have h1 := hel i hi
    rw [List.getElem?_eq_getElem (by omega), Option.bind_eq_some_iff] at h1
    obtain ⟨c, hc, ht⟩ := h1
    obtain ⟨_, hcl, hcell⟩ := World.cells?_some hc
    rw [q.c8] at hcl hcell
    have hmem : NoF W (elems[i]'(by omega)).2 := fun b off hm => hp b off (by
      rw [show ps = _ from congrArg Prod.snd hx]
      exact List.mem_append_right _ (List.mem_flatMap.2 ⟨_, List.mem_append_left _ (List.getElem_mem _), hm⟩))
    have hcc := hcell 7 (by omega)
    have had : ((a.add (i * 8)).add 7) = ⟨a.block, a.off + i * 8 + 7, none⟩ := by
      unfold Addr.add
      by_cases h0 : i * 8 = 0 <;> simp [h0]
    rw [had, List.getElem?_eq_getElem (by omega)] at hcc
    refine ⟨?_, fun c2 hc2 => ?_⟩
    · unfold World.cell? at hcc
      split at hcc
      · rename_i hq; exact (Array.getElem?_eq_some_iff.1 hq).1
      · cases hcc
    · rw [hcc] at hc2
      cases hc2
      match c, hcl, ht with
      | [c0, c1, c2, c3, c4, c5, c6, c7], _, ht => exact av_c7 q qr qo ht hmem
end
end Go.Eng
namespace Go.Proofs.Ytnobijngkpflcaa
open Go.Eng Go.ChangeShapes Go.WideShapes Go.ChangeAt Go.RowKit
theorem Try.own : ownKnob Try.prog.godebug = none := by kernel_rfl
theorem Try.laidOut : laidOutB Try.prog = true := by kernel_rfl
theorem vo : VO Try.prog 33 5 2 9 23 31 := ⟨by kernel_rfl, Try.underlying31, by kernel_rfl, by kernel_rfl⟩
theorem hst : HsT Try.prog 85 114 9 := ⟨Try.underlying85, by kernel_rfl, Try.underlying9, by kernel_rfl⟩
theorem tot : ToT Try.prog 84 89 9 87 := ⟨Try.underlying84, by kernel_rfl, Try.underlying9, by kernel_rfl, by kernel_rfl⟩
theorem rct : RcT Try.prog 87 2 85 33 := ⟨by kernel_rfl, Try.underlying2, by kernel_rfl, by kernel_rfl⟩
theorem vt : VT Try.prog 33 5 2 9 23 31 := ⟨by kernel_rfl, Try.underlying5, Try.underlying2, Try.underlying9, Try.underlying23, Try.underlying31, by kernel_rfl, by kernel_rfl⟩
set_option maxRecDepth 100000 in
theorem VoteOnce_lifted (os : Os) (started : os.Started) (H : Type) (enc : TypeId × Value → H) :
    ReturnsInHanded {} Try.checked os 8 .any (Rows.voteOnceSpec.pre6 enc Try.prog Try.f8 Rows.voteOnceRow.domain false) (Rows.voteOnceSpec.post enc Try.prog Try.f8 false true false false) := by
  refine returnsInHanded_of_change (C := Try.checked) Try.own started (by kernel_rfl) Try.func8
    (ChangeSpec.witness6 (enc := enc) (C := Try.checked) false ⟨#[], #[(.int .i64 (0)), (.slice none 0 0), .agg #[(.string (⟨#[]⟩)), (.int .i64 (0)), (.slice none 0 0), (.int .u8 (0)), (.int .i64 (0)), (.string (⟨#[]⟩)), (.slice none 0 0), (.slice none 0 0)]], []⟩ 8 (by kernel_rfl) (by kernel_rfl) (by kernel_rfl) (by kernel_rfl)) ?_
  intro W base args ds gs before hval0 hW hcnd _
  have hval : ∀ (j : Nat) t v, Try.f8.params[j]? = some t → args[j]? = some v → Value.okWide Try.prog W .any base t v := hval0
  have hW' := hW
  obtain ⟨p, q, hA0, hV, rfl, hfz, hnd⟩ := hW
  have hA : DataW.TrodAll enc Try.prog W 0 (fun _ => true) true Try.f8.params.toList args.toList ds p := hA0
  rw [Try.params8] at hA hval
  obtain ⟨v0, v1, v2, d0, d1, d2, p0, p1, p2, rfl, rfl, rfl, h0, h1, h2⟩ := trodAll_three hA
  obtain ⟨rfl, rfl⟩ := trodVars_none hV
  obtain ⟨n0, rfl, rfl, rfl, w0⟩ := open_int Try.underlying3 (hval 0 3 v0 rfl rfl) h0
  obtain ⟨x1, r1⟩ := arg_Tos tot rct hst vt (ts := [84, 89, 9, 87, 2, 85, 114, 33, 5, 23, 31]) (by kernel_rfl) (by decide) Try.underlying84 (hval 1 84 v1 rfl rfl) h1
  obtain ⟨x2, r2⟩ := arg_To tot rct hst vt (ts := [89, 9, 87, 2, 85, 114, 33, 5, 23, 31]) (by kernel_rfl) (by decide) Try.underlying89 (hval 2 89 v2 rfl rfl) h2
  have b1 : AVts W v1 := arg_AVts tot rct vo h1 fun b off hm => hfz b off (by simp only [List.mem_append]; simp [hm])
  have b2 : AVt W v2 := arg_AVt tot rct vo h2 fun b off hm => hfz b off (by simp only [List.mem_append]; simp [hm])
  refine (VoteOnce_ok W n0 x1 x2 W (AtW W) v1 v2 (Nat.le_refl _) (pin_atW W) b1 b2 (rd_atW r1) (rd_atW r2)).mono fun e W' ⟨v, he, hk, hv⟩ => ?_
  subst hv
  exact ⟨_, he, law_post Try.laidOut (of_decide_eq_true (by kernel_rfl)) rfl (tb := 4) (by kernel_rfl) Try.underlying4 rfl hW' hk⟩
theorem voteOnce_holds : Rows.VoteOnceSaid :=
  OpenClaim.holds_of_wide 8 Try.f8 rfl rfl rfl rfl rfl rfl rfl ⟨rfl, rfl, rfl, rfl, rfl⟩ rfl rfl rfl rfl rfl (by kernel_rfl) Try.func8 (by kernel_rfl)
    (of_decide_eq_true (by kernel_rfl)) (by unfold Func.isWrapper; first | (rw [if_pos (by decide +kernel)]; kernel_rfl) | (rw [if_neg (by decide +kernel)]; exact ⟨rfl, rfl⟩))
    (fun os started H enc _ => VoteOnce_lifted os started H enc)
end Go.Proofs.Ytnobijngkpflcaa
