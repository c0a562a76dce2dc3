/-
  The law VoteOnce of package legatelaw30 returns true for every input, and leaves its arguments as they were. No condition beyond the row's own.
-/
import Derived.Test.YtnobijngkpflcaaVo2
import Derived.Laws.StructEq
import Derived.KernelRfl
namespace Go.Proofs.Ytnobijngkpflcaa
open Go.Eng
set_option maxRecDepth 100000 in
theorem cloneM_ok (L : List Mb) (hn : L.length ≤ 1073741824) (w : World) (S : BSet) (v : Value) (hv : Rd w S (mbsD L) v) : Calls Try.prog 94 #[v] w (Ret w fun u W => ∃ hd, Arr W w.heap.size 67 6 (fun b o => Ar w S b o ∧ b ∉ blks hd) (L.map Mb.d) u hd) := by
  obtain ⟨va, vc, ev, D_v⟩ := rdMbs_out (rd_arg hv)
  subst ev
  refine enter Try.func94 rfl Try.ntmps94 (lbr rfl) fun a0 y0 zz0 harg => ?_
  have e0 : sl a0 0 = (.slice va (L.length) vc) := harg 0 (lbr rfl)
  have kw := Keeps.refl All w
  clear harg
  refine wp_seq_k fun K1 hK1 => ?_
  refine rg mixed y0 zz0 ?_
  refine .i (sp_assign Has.cst) ?_
  refine .done ⟨by kernel_rfl, fun a2 g W2 y2 zz2 hk hg hV hR hP => ?_⟩
  obtain ⟨-, -⟩ := hV
  replace e0 := (hR 0 rfl).trans e0
  replace D_v := D_v.ext hk
  replace kw := kw.x hk
  clear hR hk hg hP
  refine tail_nil (hK1 _ _ ?_)
  refine wp_seq_k fun K3 hK3 => ?_
  refine wp_seq_k fun K4 hK4 => ?_
  refine rg mixed y2 zz2 ?_
  refine .i (sp_move (hbs rfl e0)) ?_
  refine .i (v := (.bool (va.isNone))) (sp_slNil Try.underlying82 (hlc rfl) Has.cst) ?_
  refine .done ⟨by kernel_rfl, fun a5 g W5 y5 zz5 hk hg hV hR hP => ?_⟩
  obtain ⟨e4, -, -⟩ := hV
  replace e0 := (hR 0 rfl).trans e0
  replace D_v := D_v.ext hk
  have e4 : sl a5 4 = (.bool (va.isNone)) := e4
  replace kw := kw.x hk
  clear hR hk hg hP
  refine tail_nil (hK4 _ _ ?_)
  refine wp_cond_split e4 (fun hc => ?_) (fun hc => ?_)
  ·
   have hns : L = [] := by simpa using rd_none (ds := L.map Mb.d) D_v hc
   subst hns
   refine wp_seq_k fun K6 hK6 => ?_
   refine rg mixed y5 zz5 ?_
   refine .i (sp_assign Has.cst) ?_
   refine .done ⟨by kernel_rfl, fun a7 g W7 y7 zz7 hk hg hV hR hP => ?_⟩
   obtain ⟨e2, -⟩ := hV
   replace D_v := D_v.ext hk
   have e2 : sl a7 2 = (.slice none 0 0) := e2
   replace kw := kw.x hk
   clear hR hk hg hP
   refine tail_nil (hK6 _ _ ?_)
   refine wp_ret ?_
   refine (show bodyPost Try.prog Try.f94 _ .ret _ _ from ret1 rfl zz7 e2 ⟨_, rfl, kw, ?_⟩)
   exact ⟨none, arr_nil _ _ _ _ _⟩
  ·
   refine wp_skip (hK3 _ _ ?_)
   refine wp_seq_k fun K8 hK8 => ?_
   refine rg mixed y5 zz5 ?_
   refine .op (φ := IsArr W5 w.heap.size 67 6 (SA w S []) ([]) none) st_arr (sp_bslA Try.underlying82 sz67 kw.size) ?_
   refine .done ⟨by kernel_rfl, fun a9 g W9 y9 zz9 hk hg hV hR hP => ?_⟩
   obtain ⟨e5, -⟩ := hV
   replace e0 := (hR 0 rfl).trans e0
   obtain ⟨v5_9, ev⟩ : ∃ v, sl a9 5 = v := ⟨_, rfl⟩
   rw [ev] at e5
   obtain ⟨hd5_9, A_5_9, hf5_9⟩ := e5
   have e5 := ev; clear ev
   replace hf5_9 := row_new hf5_9
   obtain ⟨v5_9a, v5_9n, v5_9c, ev⟩ := arr_sl A_5_9; subst ev
   replace A_5_9 : Arr W9 w.heap.size 67 6 (SA w S (blks hd5_9 ++ [])) (List.map Mb.d ([])) (.slice v5_9a v5_9n v5_9c) hd5_9 := arrA_new A_5_9 (M' := (blks hd5_9 ++ [])) (fun b hb => (List.mem_append.1 hb).symm)
   replace D_v : Rd W9 (SA w S (blks hd5_9 ++ [])) (mbsD (L)) (.slice va (L.length) vc) := sa_more D_v hk (blks hd5_9) hf5_9
   replace kw := kw.x hk
   clear hR hk hg hP hf5_9
   refine tail_reg 2 (fun k => k ∉ blks hd5_9) (Ψ := fun W => Arr W w.heap.size 67 6 (SA w S (blks hd5_9 ++ [])) (List.map Mb.d ([])) (.slice v5_9a v5_9n v5_9c) hd5_9) y9 zz9 (fun W W' k h => h.ext k) A_5_9 rfl ?_
   refine .i (sp_move (hbs rfl e0)) ?_
   refine .appB (ds := List.map Mb.d ([])) (es := List.map Mb.d (L)) (X := SA w S (blks hd5_9 ++ [])) Try.underlying82 inf67 (lbr rfl) (hbs rfl e5) ((hlc rfl).dat D_v (sub_nb (fun b hb => List.mem_append_left _ hb))) (sub_nb (fun b hb => List.mem_append_left _ hb)) (by simp [maxLen]; omega) (by simp; omega) kw.size ?_
   refine .done ⟨by kernel_rfl, fun a10 g W10 y10 zz10 hk hg hV hR hP => ?_⟩
   refine tail_nil ?_
   show runTail _ _ _ _ _ _
   obtain ⟨e7, -, -⟩ := hV
   obtain ⟨v7_10, ev⟩ : ∃ v, sl a10 7 = v := ⟨_, rfl⟩
   rw [ev] at e7
   obtain ⟨hd7_10, A_7_10, hf7_10⟩ := e7
   have e7 := ev; clear ev
   obtain ⟨v7_10a, v7_10n, v7_10c, ev⟩ := arr_sl A_7_10; subst ev
   replace A_7_10 := arrA_new (M' := (blks hd7_10 ++ [])) A_7_10 (rep_app (rep_q fun _ h => h) rep_nil)
   replace A_7_10 : Arr W10 w.heap.size 67 6 (SA w S (blks hd7_10 ++ [])) (List.map Mb.d (L)) (.slice v7_10a v7_10n v7_10c) hd7_10 := by first | exact A_7_10 | (rw [List.map_append]; exact A_7_10)
   replace D_v := sa_app (M' := (blks hd7_10 ++ [])) D_v hk (fun b hb => List.mem_append_left _ hb) (rep_app hf7_10 rep_nil)
   replace kw := keeps_app kw hk A_5_9.ge
   clear hR hk hg hP hf7_10 A_5_9
   refine tail_assign (v := (.slice v7_10a v7_10n v7_10c)) e7 (by rw [y10]; exact Nat.le_of_ble_eq_true rfl) (fun a11 y11 zz11 e2 hr => ?_)
   replace y11 := y11.trans y10; replace zz11 := zz11.trans zz10
   replace e7 := (hr 7 (by decide)).trans e7
   clear hr
   refine tail_nil (hK8 _ _ ?_)
   refine wp_ret ?_
   refine (show bodyPost Try.prog Try.f94 _ .ret _ _ from ret1 rfl zz11 e2 ⟨_, rfl, kw, ?_⟩)
   exact arr_sa_ar A_7_10
set_option maxRecDepth 100000 in
theorem ObjectOf_ok (L : List Mb) (hn : 0 < L.length) (h12 : L.length ≤ 12) (hw : ∀ m ∈ L, m.v.wt ≤ 1073741824) (w : World) (S : BSet) (v : Value) (hS : ∀ b o, S b o → Cln o) (hv : Rd w S (mbsD L) v) : Calls Try.prog 38 #[v] w (Ret w fun r W => ∃ r1, r = .tuple #[r1, .int .i64 (objE L)] ∧ Rd W (Fr w) (objM L).d r1) := by
  have hsl := sortMb_len L
  have hwS := sortMb_all L hw
  obtain ⟨va, vc, ev, D_v⟩ := rdMbs_out (rd_arg hv)
  subst ev
  refine enter Try.func38 rfl Try.ntmps38 (lbr rfl) fun a0 y0 zz0 harg => ?_
  have e0 : sl a0 0 = (.slice va (L.length) vc) := harg 0 (lbr rfl)
  have kw := Keeps.refl All w
  clear harg
  refine wp_seq_k fun K1 hK1 => ?_
  refine rg mixed y0 zz0 ?_
  refine .alloc z33 ?_
  refine .i (sp_assign Has.cst) ?_
  refine .done ⟨by kernel_rfl, fun a2 g W2 y2 zz2 hk hg hV hR hP => ?_⟩
  obtain ⟨-, ⟨b2_2, e2, hb2, own_b2_2⟩, -⟩ := hV
  have lo_b2_2 : w.heap.size ≤ b2_2 := Nat.le_trans kw.size (hg.lo _ _ hb2)
  have own_b2_2 : Own W2 b2_2 [(.int .u8 (0)), (.int .i64 (0)), (.string (⟨#[]⟩)), (.slice none 0 0), (.slice none 0 0)] 33 := own_b2_2
  replace e0 := (hR 0 rfl).trans e0
  replace D_v := sa_more D_v hk [b2_2] (in_cons (hg.lo _ _ hb2) in_nil)
  replace kw := kw.x hk
  clear hR hk hg hP hb2
  refine tail_nil (hK1 _ _ ?_)
  refine wp_seq_k fun K3 hK3 => ?_
  refine rg mixed y2 zz2 ?_
  refine .i (sp_move (hbs rfl e0)) ?_
  refine .op (φ := IsArr W2 w.heap.size 67 6 (SA w S [b2_2]) (List.map Mb.d (L)) none) st_arr (sp_call1 (φ1 := IsD (SA w S [b2_2]) (mbsD (L))) ent94 ((hlc rfl).dat D_v sub_all) (fun g u1 W hk hgk h1 => (cloneM_ok (L) (by omega) W _ _ h1).mono (fun _ _ ⟨v, h1, h2, h3⟩ => ⟨v, h1, h2, arr_arA kw (in_cons own_b2_2.lt in_nil) hk h3⟩))) ?_
  refine .done ⟨by kernel_rfl, fun a4 g W4 y4 zz4 hk hg hV hR hP => ?_⟩
  obtain ⟨e9, -, -⟩ := hV
  replace e2 := (hR 2 rfl).trans e2
  obtain ⟨v9_4, ev⟩ : ∃ v, sl a4 9 = v := ⟨_, rfl⟩
  rw [ev] at e9
  obtain ⟨hd9_4, A_9_4, hf9_4⟩ := e9
  have e9 := ev; clear ev
  replace hf9_4 := row_new hf9_4
  obtain ⟨v9_4a, v9_4n, v9_4c, ev⟩ := arr_sl A_9_4; subst ev
  replace A_9_4 : Arr W4 w.heap.size 67 6 (SA w S (blks hd9_4 ++ (b2_2 :: []))) (List.map Mb.d (L)) (.slice v9_4a v9_4n v9_4c) hd9_4 := arrA_new A_9_4 (M' := (blks hd9_4 ++ (b2_2 :: []))) (fun b hb => (List.mem_append.1 hb).symm)
  have nb_b2_2_4 : b2_2 ∉ blks hd9_4 := fun hm => absurd (hf9_4 _ hm) (Nat.not_le.2 own_b2_2.lt)
  replace D_v : Rd W4 (SA w S (blks hd9_4 ++ (b2_2 :: []))) (mbsD (L)) (.slice va (L.length) vc) := sa_more D_v hk (blks hd9_4) hf9_4
  replace own_b2_2 := own_b2_2.ext hk
  replace kw := kw.x hk
  clear hR hk hg hP hf9_4
  refine tail_assign (v := (.slice v9_4a v9_4n v9_4c)) e9 (by rw [y4]; exact Nat.le_of_ble_eq_true rfl) (fun a5 y5 zz5 e4 hr => ?_)
  replace y5 := y5.trans y4; replace zz5 := zz5.trans zz4
  replace e2 := (hr 2 (by decide)).trans e2
  replace e9 := (hr 9 (by decide)).trans e9
  clear hr
  refine tail_nil (hK3 _ _ ?_)
  refine wp_seq_k fun K6 hK6 => ?_
  refine wp_reg (fun k => k ∉ blks hd9_4) (Ψ := fun W => Arr W w.heap.size 67 6 (SA w S (blks hd9_4 ++ (b2_2 :: []))) (List.map Mb.d (L)) (.slice v9_4a v9_4n v9_4c) hd9_4) mixed y5 zz5 (fun W W' k h => h.ext k) A_9_4 ?_
  refine .i (sp_move (hbs rfl e4)) ?_
  refine .callL2 (φ1 := Is (.slice v9_4a v9_4n v9_4c)) (φ2 := Is (.func (.func 96) #[] #[])) (φ := Is (.tuple #[])) (Ψ' := fun W => Arr W w.heap.size 67 6 (SA w S (blks hd9_4 ++ (b2_2 :: []))) (List.map Mb.d (sortMb L)) (.slice v9_4a v9_4n v9_4c) hd9_4) ent95 (hlc rfl) Has.fn (st_is _) (fun W W' k h => h.ext k) (fun g u1 u2 W hk hg h1 h2 hP => by have h1 : u1 = _ := h1; subst u1; have h2 : u2 = _ := h2; subst u2; exact sort_ok (L) hn h12 W _ _ _ _ (sub_nb (fun b hb => List.mem_append_left _ hb)) hP) ?_
  refine .done ⟨by kernel_rfl, fun a7 g W7 y7 zz7 hk hg hV hR hP => ?_⟩
  obtain ⟨-, -, -⟩ := hV
  replace e2 := (hR 2 rfl).trans e2
  replace e4 := (hR 4 rfl).trans e4
  replace own_b2_2 := own_keepL own_b2_2 hk nb_b2_2_4
  replace kw := keeps_app kw hk A_9_4.ge
  have A_w7 : Arr W7 w.heap.size 67 6 (SA w S (blks hd9_4 ++ (b2_2 :: []))) (List.map Mb.d (sortMb L)) (.slice v9_4a v9_4n v9_4c) hd9_4 := hP
  clear hR hk hg hP A_9_4
  have D_v9_4 : Rd W7 (SA w S [b2_2]) (mbsD (sortMb L)) (.slice v9_4a v9_4n v9_4c) := arrA_rd A_w7 (ls_skipA (ls_keep ls_nil)) (nin_cons nb_b2_2_4 nin_nil)
  obtain ⟨xa, xc, ev, D2⟩ := rdMbs_out D_v9_4
  injection ev with h1 h2 h3; subst h1 h2 h3; replace D_v9_4 := D2; clear D2
  refine tail_nil (hK6 _ _ ?_)
  refine wp_seq_k fun K8 hK8 => ?_
  refine rg mixed y7 zz7 ?_
  refine .i (v := (.agg #[(.int .u8 (5)), (.int .i64 (0)), (.string (⟨#[]⟩)), (.slice none 0 0), (.slice none 0 0)])) (sp_build (vs := [(0, (.int .u8 (5)))]) Try.underlying33 z33 (pl33 Try.underlying33) ⟨rfl, Has.cst, trivial⟩ rfl) ?_
  refine .alloc z33 ?_
  refine .done ⟨by kernel_rfl, fun a9 g W9 y9 zz9 hk hg hV hR hP => ?_⟩
  obtain ⟨⟨b5_9, e5, hb5, own_b5_9⟩, e12, -⟩ := hV
  have lo_b5_9 : w.heap.size ≤ b5_9 := Nat.le_trans kw.size (hg.lo _ _ hb5)
  have ne_b2_2_b5_9 : b2_2 ≠ b5_9 := Nat.ne_of_lt (Nat.lt_of_lt_of_le own_b2_2.lt (hg.lo _ _ hb5))
  have own_b5_9 : Own W9 b5_9 [(.int .u8 (0)), (.int .i64 (0)), (.string (⟨#[]⟩)), (.slice none 0 0), (.slice none 0 0)] 33 := own_b5_9
  replace e2 := (hR 2 rfl).trans e2
  replace e4 := (hR 4 rfl).trans e4
  replace D_v9_4 := sa_more D_v9_4 hk [b5_9] (in_cons (hg.lo _ _ hb5) in_nil)
  replace e12 := e12.q
  replace own_b2_2 := own_b2_2.ext hk
  replace kw := kw.x hk
  clear hR hk hg hP hb5
  refine tail_store (b := b5_9) (o := 0) (v := (.agg #[(.int .u8 (5)), (.int .i64 (0)), (.string (⟨#[]⟩)), (.slice none 0 0), (.slice none 0 0)])) e5 e12 sz33 rfl own_b5_9 (lbr rfl) (all_cons rfl (all_cons rfl (all_cons rfl (all_cons rfl (all_cons rfl all_nil))))) (fun W10 hs own_b5_9 => ?_)
  have own_b5_9 : Own W10 b5_9 [(.int .u8 (5)), (.int .i64 (0)), (.string (⟨#[]⟩)), (.slice none 0 0), (.slice none 0 0)] 33 := own_b5_9
  replace own_b2_2 := own_store own_b2_2 hs ne_b2_2_b5_9
  replace D_v9_4 := sa_store D_v9_4 hs (by simp)
  replace kw := keeps_store kw hs lo_b5_9
  clear hs
  refine tail_nil (hK8 _ _ ?_)
  refine wp_seq_k fun K11 hK11 => ?_
  refine wp_seq_k fun K12 hK12 => ?_
  refine rg mixed y9 zz9 ?_
  refine .i (sp_move (hbs rfl e4)) ?_
  refine .i (sp_lenL Try.underlying82 ((hlc rfl).dat D_v9_4 sub_all)) ?_
  refine .i (sp_move Has.cst) ?_
  refine .done ⟨by kernel_rfl, fun a13 g W13 y13 zz13 hk hg hV hR hP => ?_⟩
  obtain ⟨e15, e14, e13, -⟩ := hV
  replace e2 := (hR 2 rfl).trans e2
  replace e4 := (hR 4 rfl).trans e4
  replace e5 := (hR 5 rfl).trans e5
  replace D_v9_4 := D_v9_4.ext hk
  have e13 : sl a13 13 = (.slice v9_4a ((sortMb L).length) v9_4c) := e13
  have e14 : sl a13 14 = (.int .i64 ((sortMb L).length)) := e14
  have e15 : sl a13 15 = (.int .i64 (0)) := e15
  replace own_b2_2 := own_b2_2.ext hk
  replace own_b5_9 := own_b5_9.ext hk
  replace kw := kw.x hk
  clear hR hk hg hP
  refine tail_nil (hK12 _ _ ?_)
  refine wp_block ?_
  have A_ar14 : Arr W13 w.heap.size 9 1 (SF w (blks none ++ (b5_9 :: (b2_2 :: [])))) (List.map D.str ([])) (.slice none 0 0) none := arr_nil _ _ _ _ _
  replace D_v9_4 : Rd W13 (SA w S (blks none ++ (b5_9 :: (b2_2 :: [])))) (mbsD (sortMb L)) (.slice v9_4a ((sortMb L).length) v9_4c) := D_v9_4
  have A_ar15 : Arr W13 w.heap.size 33 5 (SF w (blks (none) ++ (blks none ++ (b5_9 :: (b2_2 :: []))))) (List.map V.d ([])) (.slice none 0 0) (none) := arr_nil _ _ _ _ _
  replace D_v9_4 : Rd W13 (SA w S (blks (none) ++ (blks none ++ (b5_9 :: (b2_2 :: []))))) (mbsD (sortMb L)) (.slice v9_4a ((sortMb L).length) v9_4c) := D_v9_4
  replace A_ar14 : Arr W13 w.heap.size 9 1 (SF w (blks (none) ++ (blks none ++ (b5_9 :: (b2_2 :: []))))) (List.map D.str ([])) (.slice none 0 0) none := A_ar14
  refine wp_for ((sortMb L).length) (fun k a W => ∃ (va3_16 : Value), ∃ (hd3_16 : Option Nat), ∃ (va4_16 : Value), ∃ (hd4_16 : Option Nat), a.tmps.size = 51 ∧ a.defers = [] ∧ Keeps All w W ∧ sl a 2 = (.pointer (some ⟨b2_2, 0, none⟩)) ∧ sl a 4 = (.slice v9_4a ((sortMb L).length) v9_4c) ∧ sl a 5 = (.pointer (some ⟨b5_9, 0, none⟩)) ∧ sl a 13 = (.slice v9_4a ((sortMb L).length) v9_4c) ∧ sl a 14 = (.int .i64 ((sortMb L).length)) ∧ sl a 15 = (.int .i64 ((k : Nat))) ∧ Own W b2_2 [(.int .u8 (0)), (.int .i64 (0)), (.string (⟨#[]⟩)), (.slice none 0 0), (.slice none 0 0)] 33 ∧ Own W b5_9 [(.int .u8 (5)), (.int .i64 (0)), (.string (⟨#[]⟩)), va3_16, va4_16] 33 ∧ Rd W (SA w S (blks hd4_16 ++ (blks hd3_16 ++ (b5_9 :: (b2_2 :: []))))) (mbsD (sortMb L)) (.slice v9_4a ((sortMb L).length) v9_4c) ∧ Arr W w.heap.size 9 1 (SF w (blks hd4_16 ++ (blks hd3_16 ++ (b5_9 :: (b2_2 :: []))))) (List.map D.str (List.map Mb.nm ((sortMb L).take k))) va3_16 hd3_16 ∧ b2_2 ∉ blks hd3_16 ∧ b5_9 ∉ blks hd3_16 ∧ Arr W w.heap.size 33 5 (SF w (blks hd4_16 ++ (blks hd3_16 ++ (b5_9 :: (b2_2 :: []))))) (List.map V.d (List.map Mb.v ((sortMb L).take k))) va4_16 hd4_16 ∧ b2_2 ∉ blks hd4_16 ∧ b5_9 ∉ blks hd4_16 ∧ (∀ b ∈ blks hd3_16, b ∉ blks hd4_16) ∧ (∀ i (h : i + 1 < (sortMb L).length), i + 1 < k → ((sortMb L)[i]).nm ≠ ((sortMb L)[i + 1]).nm)) ⟨(.slice none 0 0), none, (.slice none 0 0), (none), y13, zz13, kw, e2, e4, e5, e13, e14, (e15.trans (congrArg (Value.int .i64) (rfl))), own_b2_2, own_b5_9, D_v9_4, A_ar14, nb_none, nb_none, A_ar15, nb_none, nb_none, (fun _ _ => nb_none), fun i h hi => absurd hi (by omega)⟩ ?_
  clear kw e2 e4 e5 e13 e14 e15 own_b2_2 own_b5_9 D_v9_4 A_ar14 A_ar15
  rintro k a16 W16 hkk ⟨va3_16, hd3_16, va4_16, hd4_16, y16, zz16, kw, e2, e4, e5, e13, e14, e15, own_b2_2, own_b5_9, D_v9_4, A3_16, nb_b2_2_ar14_16, nb_b5_9_ar14_16, A4_16, nb_b2_2_ar15_16, nb_b5_9_ar15_16, dj_ar14_ar15_16, hinv⟩
  refine wp_seq_k fun K17 hK17 => ?_
  refine rg mixed y16 zz16 ?_
  refine .i (sp_lss (hbs rfl e15) (hbs rfl e14)) ?_
  refine .done ⟨by kernel_rfl, fun a18 g W18 y18 zz18 hk hg hV hR hP => ?_⟩
  obtain ⟨e16, -⟩ := hV
  replace e2 := (hR 2 rfl).trans e2
  replace e4 := (hR 4 rfl).trans e4
  replace e5 := (hR 5 rfl).trans e5
  replace e13 := (hR 13 rfl).trans e13
  replace e14 := (hR 14 rfl).trans e14
  replace e15 := (hR 15 rfl).trans e15
  replace A3_16 := A3_16.ext hk
  replace A4_16 := A4_16.ext hk
  replace D_v9_4 := D_v9_4.ext hk
  replace e16 := e16.q
  replace own_b2_2 := own_b2_2.ext hk
  replace own_b5_9 := own_b5_9.ext hk
  replace kw := kw.x hk
  clear hR hk hg hP
  refine tail_nil (hK17 _ _ ?_)
  refine wp_seq_k fun K19 hK19 => ?_
  refine wp_cond_split e16 (fun hc => ?_) (fun hc => ?_)
  ·
   have hlt : k < (sortMb L).length := by simpa using hc
   have hwm := hwS _ (List.getElem_mem hlt)
   refine wp_skip (hK19 _ _ ?_)
   refine wp_seq_k fun K20 hK20 => ?_
   refine wp_block ?_
   refine wp_seq_k fun K21 hK21 => ?_
   refine rg mixed y18 zz18 ?_
   refine .i (sp_move (hbs rfl e15)) ?_
   refine .rf (X := SA w S (blks hd4_16 ++ (blks hd3_16 ++ (b5_9 :: (b2_2 :: []))))) (e := Mb.d ((sortMb L)[k]'hlt)) (sp_indexL (i := k) ((hbs rfl e13).dat D_v9_4 sub_all) (hbs rfl e15) Try.underlying82 sz67 rfl hlt) ?_
   refine .da (X := SA w S (blks hd4_16 ++ (blks hd3_16 ++ (b5_9 :: (b2_2 :: []))))) (e := Mb.d ((sortMb L)[k]'hlt)) (sp_loadR (hlc rfl) agg67 sz67 (width_Mb _)) ?_
   refine .alloc z67 ?_
   refine .i (sp_assign (hlc rfl)) ?_
   refine .done ⟨by kernel_rfl, fun a22 g W22 y22 zz22 hk hg hV hR hP => ?_⟩
   obtain ⟨e6, ⟨b7_22, e7, hb7, own_b7_22⟩, e19, -, -, -⟩ := hV
   have lo_b7_22 : w.heap.size ≤ b7_22 := Nat.le_trans kw.size (hg.lo _ _ hb7)
   have ne_b2_2_b7_22 : b2_2 ≠ b7_22 := Nat.ne_of_lt (Nat.lt_of_lt_of_le own_b2_2.lt (hg.lo _ _ hb7))
   have ne_b5_9_b7_22 : b5_9 ≠ b7_22 := Nat.ne_of_lt (Nat.lt_of_lt_of_le own_b5_9.lt (hg.lo _ _ hb7))
   have own_b7_22 : Own W22 b7_22 [(.string (⟨#[]⟩)), (.int .u8 (0)), (.int .i64 (0)), (.string (⟨#[]⟩)), (.slice none 0 0), (.slice none 0 0)] 67 := own_b7_22
   replace e2 := (hR 2 rfl).trans e2
   replace e4 := (hR 4 rfl).trans e4
   replace e5 := (hR 5 rfl).trans e5
   replace e13 := (hR 13 rfl).trans e13
   replace e14 := (hR 14 rfl).trans e14
   replace e15 := (hR 15 rfl).trans e15
   have hMx : ∀ b ∈ (blks hd4_16 ++ (blks hd3_16 ++ (b5_9 :: (b2_2 :: [])))), b < W18.heap.size := (in_app A4_16.lt (in_app A3_16.lt (in_cons own_b5_9.lt (in_cons own_b2_2.lt in_nil))))
   have nb_b7_22_ar14 : b7_22 ∉ blks hd3_16 := nb_lt A3_16.lt (hg.lo _ _ hb7)
   replace A3_16 : Arr W22 w.heap.size 9 1 (SF w (b7_22 :: (blks hd4_16 ++ (blks hd3_16 ++ (b5_9 :: (b2_2 :: [])))))) (List.map D.str (List.map Mb.nm ((sortMb L).take k))) va3_16 hd3_16 := arrF_more A3_16 hk [b7_22] (in_cons (hg.lo _ _ hb7) in_nil)
   have nb_b7_22_ar15 : b7_22 ∉ blks hd4_16 := nb_lt A4_16.lt (hg.lo _ _ hb7)
   replace A4_16 : Arr W22 w.heap.size 33 5 (SF w (b7_22 :: (blks hd4_16 ++ (blks hd3_16 ++ (b5_9 :: (b2_2 :: [])))))) (List.map V.d (List.map Mb.v ((sortMb L).take k))) va4_16 hd4_16 := arrF_more A4_16 hk [b7_22] (in_cons (hg.lo _ _ hb7) in_nil)
   replace D_v9_4 : Rd W22 (SA w S (b7_22 :: (blks hd4_16 ++ (blks hd3_16 ++ (b5_9 :: (b2_2 :: [])))))) (mbsD (sortMb L)) (.slice v9_4a ((sortMb L).length) v9_4c) := sa_more D_v9_4 hk [b7_22] (in_cons (hg.lo _ _ hb7) in_nil)
   obtain ⟨v19_22, ev⟩ : ∃ v, sl a22 19 = v := ⟨_, rfl⟩
   rw [ev] at e19
   have D_v19_22 : Rd W22 (SA w S (b7_22 :: (blks hd4_16 ++ (blks hd3_16 ++ (b5_9 :: (b2_2 :: [])))))) (Mb.d ((sortMb L)[k]'hlt)) v19_22 := sa_end e19 hk [b7_22] (in_cons ⟨_, hb7⟩ in_nil)
   replace e19 := ev; clear ev
   obtain ⟨v19_22_4a, v19_22_4c, v19_22_5a, v19_22_5c, ev, hb_v19_22_0, hb_v19_22_3, D_v19_22_4, D_v19_22_5⟩ := rdMb_out D_v19_22
   subst ev; clear D_v19_22
   have e6 : sl a22 6 = (.int .i64 ((k : Nat))) := e6
   replace own_b2_2 := own_b2_2.ext hk
   replace own_b5_9 := own_b5_9.ext hk
   replace kw := kw.x hk
   clear hR hk hg hP hb7
   refine tail_store (b := b7_22) (o := 0) (v := (.agg #[(.string (((sortMb L)[k]'hlt).nm)), (.int .u8 (((sortMb L)[k]'hlt).v.k)), (.int .i64 (((sortMb L)[k]'hlt).v.n)), (.string (((sortMb L)[k]'hlt).v.t)), (.slice v19_22_4a ((((sortMb L)[k]'hlt).v.ns).length) v19_22_4c), (.slice v19_22_5a ((((sortMb L)[k]'hlt).v.xs).length) v19_22_5c)])) e7 e19 sz67 rfl own_b7_22 (lbr rfl) (all_cons rfl (all_cons rfl (all_cons rfl (all_cons rfl (all_cons rfl (all_cons rfl all_nil)))))) (fun W23 hs own_b7_22 => ?_)
   have own_b7_22 : Own W23 b7_22 [(.string (((sortMb L)[k]'hlt).nm)), (.int .u8 (((sortMb L)[k]'hlt).v.k)), (.int .i64 (((sortMb L)[k]'hlt).v.n)), (.string (((sortMb L)[k]'hlt).v.t)), (.slice v19_22_4a ((((sortMb L)[k]'hlt).v.ns).length) v19_22_4c), (.slice v19_22_5a ((((sortMb L)[k]'hlt).v.xs).length) v19_22_5c)] 67 := own_b7_22
   replace own_b2_2 := own_store own_b2_2 hs ne_b2_2_b7_22
   replace own_b5_9 := own_store own_b5_9 hs ne_b5_9_b7_22
   replace D_v9_4 := sa_store D_v9_4 hs (by simp)
   replace D_v19_22_4 := sa_store D_v19_22_4 hs (by simp)
   replace D_v19_22_5 := sa_store D_v19_22_5 hs (by simp)
   replace A3_16 := arrF_store A3_16 hs (by simp) nb_b7_22_ar14
   replace A4_16 := arrF_store A4_16 hs (by simp) nb_b7_22_ar15
   replace kw := keeps_store kw hs lo_b7_22
   clear hs
   refine tail_nil (hK21 _ _ ?_)
   refine wp_seq_k fun K24 hK24 => ?_
   refine wp_seq_k fun K25 hK25 => ?_
   refine rg mixed y22 zz22 ?_
   refine .i (sp_move (hbs rfl e6)) ?_
   refine .i (sp_gtr (hlc rfl) Has.cst) ?_
   refine .i (sp_move (hlc rfl)) ?_
   refine .e (t := 22) rfl (hlc rfl) (fun hg => sp_move (hbs rfl e4)) ?_
   refine .e (t := 22) rfl (hlc rfl) (fun hg => sp_move (hbs rfl e6)) ?_
   refine .e (t := 22) rfl (hlc rfl) (fun hg => sp_sub ((hlc rfl).undE hg) Has.cst (i64_in (by omega))) ?_
   refine .opE (t := 22) (φ := IsR (SA w S (b7_22 :: (blks hd4_16 ++ (blks hd3_16 ++ (b5_9 :: (b2_2 :: [])))))) (Mb.d ((sortMb L)[(k - 1)]'(by omega)))) rfl (hlc rfl) (st_r sub_all) (fun hg => sp_indexL (i := (k - 1)) (((hlc rfl).undE hg).dat D_v9_4 sub_all) ((hlc rfl).undE hg) Try.underlying82 sz67 (by have := of_decide_eq_true hg; omega) (by omega)) ?_
   refine .opE (t := 22) (φ := IsR (SA w S (b7_22 :: (blks hd4_16 ++ (blks hd3_16 ++ (b5_9 :: (b2_2 :: [])))))) (D.str (((sortMb L)[(k - 1)]'(by omega)).nm))) rfl (hlc rfl) (st_r sub_all) (fun hg => sp_fieldR ((hlc rfl).undE hg) Try.underlying67 rfl sz9 rfl (by first | rfl | simp [widths, width, hssD, width_V])) ?_
   refine .e (t := 22) rfl (hlc rfl) (fun hg => sp_loadStr ((hlc rfl).undE hg) agg9 sz9) ?_
   refine .e (t := 22) rfl (hlc rfl) (fun hg => fo 0 (hbs rfl e7) Try.underlying67 rfl sz9 rfl) ?_
   refine .e (t := 22) rfl (hlc rfl) (fun hg => lo1 ((hlc rfl).undE hg) own_b7_22 trivial agg9 sz9 rfl) ?_
   refine .e (t := 22) rfl (hlc rfl) (fun hg => sp_sEql ((hlc rfl).undE hg) ((hlc rfl).undE hg)) ?_
   refine .i (sp_and (hlc rfl) ((hlc rfl).weak fun hq => hq)) ?_
   refine .done ⟨by kernel_rfl, fun a26 g W26 y26 zz26 hk hg hV hR hP => ?_⟩
   obtain ⟨e32, -, -, -, -, -, -, -, -, -, -, -, -, -⟩ := hV
   replace e2 := (hR 2 rfl).trans e2
   replace e4 := (hR 4 rfl).trans e4
   replace e5 := (hR 5 rfl).trans e5
   replace e13 := (hR 13 rfl).trans e13
   replace e14 := (hR 14 rfl).trans e14
   replace e15 := (hR 15 rfl).trans e15
   replace e7 := (hR 7 rfl).trans e7
   replace A3_16 := A3_16.ext hk
   replace A4_16 := A4_16.ext hk
   replace D_v9_4 := D_v9_4.ext hk
   replace D_v19_22_4 := D_v19_22_4.ext hk
   replace D_v19_22_5 := D_v19_22_5.ext hk
   replace e32 := e32.q
   replace own_b2_2 := own_b2_2.ext hk
   replace own_b5_9 := own_b5_9.ext hk
   replace own_b7_22 := own_b7_22.ext hk
   replace kw := kw.x hk
   clear hR hk hg hP
   refine tail_nil (hK25 _ _ ?_)
   refine wp_cond_split e32 (fun hc => ?_) (fun hc => ?_)
   ·
    have hadj : adj (sortMb L) = true := by simp at hc; exact adj_true _ (k - 1) (by omega) (by simpa [Nat.sub_add_cancel (show 1 ≤ k by omega)] using hc.2)
    have hoe : objE L = 7 := by rw [objE, hadj]; rfl
    have hov : objM L = ⟨0, 0, ⟨#[]⟩, [], []⟩ := by rw [objM, hadj]; rfl
    refine wp_seq_k fun K27 hK27 => ?_
    refine rg mixed y26 zz26 ?_
    refine .i (v := (.agg #[(.int .u8 (0)), (.int .i64 (0)), (.string (⟨#[]⟩)), (.slice none 0 0), (.slice none 0 0)])) (sp_build (vs := []) Try.underlying33 z33 (pl33 Try.underlying33) trivial rfl) ?_
    refine .done ⟨by kernel_rfl, fun a28 g W28 y28 zz28 hk hg hV hR hP => ?_⟩
    obtain ⟨e33, -⟩ := hV
    replace e2 := (hR 2 rfl).trans e2
    replace A3_16 := A3_16.ext hk
    replace A4_16 := A4_16.ext hk
    replace D_v9_4 := D_v9_4.ext hk
    replace D_v19_22_4 := D_v19_22_4.ext hk
    replace D_v19_22_5 := D_v19_22_5.ext hk
    replace e33 := e33.q
    replace own_b2_2 := own_b2_2.ext hk
    replace own_b5_9 := own_b5_9.ext hk
    replace own_b7_22 := own_b7_22.ext hk
    replace kw := kw.x hk
    clear hR hk hg hP
    refine tail_store (b := b2_2) (o := 0) (v := (.agg #[(.int .u8 (0)), (.int .i64 (0)), (.string (⟨#[]⟩)), (.slice none 0 0), (.slice none 0 0)])) e2 e33 sz33 rfl own_b2_2 (lbr rfl) (all_cons rfl (all_cons rfl (all_cons rfl (all_cons rfl (all_cons rfl all_nil))))) (fun W29 hs own_b2_2 => ?_)
    have own_b2_2 : Own W29 b2_2 [(.int .u8 (0)), (.int .i64 (0)), (.string (⟨#[]⟩)), (.slice none 0 0), (.slice none 0 0)] 33 := own_b2_2
    replace own_b5_9 := own_store own_b5_9 hs ne_b2_2_b5_9.symm
    replace own_b7_22 := own_store own_b7_22 hs ne_b2_2_b7_22.symm
    replace D_v9_4 := sa_store D_v9_4 hs (by simp)
    replace D_v19_22_4 := sa_store D_v19_22_4 hs (by simp)
    replace D_v19_22_5 := sa_store D_v19_22_5 hs (by simp)
    replace A3_16 := arrF_store A3_16 hs (by simp) nb_b2_2_ar14_16
    replace A4_16 := arrF_store A4_16 hs (by simp) nb_b2_2_ar15_16
    replace kw := keeps_store kw hs lo_b2_2
    clear hs
    refine tail_assign (v := (.int .i64 (7))) rfl (by rw [y28]; exact Nat.le_of_ble_eq_true rfl) (fun a30 y30 zz30 e3 hr => ?_)
    replace y30 := y30.trans y28; replace zz30 := zz30.trans zz28
    replace e2 := (hr 2 (by decide)).trans e2
    replace e33 := (hr 33 (by decide)).trans e33
    clear hr
    refine tail_nil (hK27 _ _ ?_)
    refine wp_ret ?_
    refine (show bodyPost Try.prog Try.f38 _ .ret _ _ from retCT (v := (.agg #[(.int .u8 (0)), (.int .i64 (0)), (.string (⟨#[]⟩)), (.slice none 0 0), (.slice none 0 0)])) rfl zz30 e2 own_b2_2 agg33 sz33 rfl (fun h => by cases h) rfl e3 ⟨_, rfl, kw, ?_⟩)
    refine ⟨_, by rw [hoe], ?_⟩
    rw [hov]
    exact sf_fr (rdV_mk (lbr rfl) (rd_nil _) (rd_nil _) : Rd W29 (SF w (b7_22 :: (blks hd4_16 ++ (blks hd3_16 ++ (b5_9 :: (b2_2 :: [])))))) (V.d (V.mk (0) (0) (⟨#[]⟩) ([]) ([]))) _)
   ·
    have hk1 : 0 < k → ((sortMb L)[k - 1]).nm ≠ ((sortMb L)[k]).nm := by simp at hc; exact fun h => hc h
    refine wp_skip (hK24 _ _ ?_)
    refine wp_seq_k fun K31 hK31 => ?_
    refine wp_reg (fun k => k ∉ blks hd3_16) (Ψ := fun W => Arr W w.heap.size 9 1 (SF w (b7_22 :: (blks hd4_16 ++ (blks hd3_16 ++ (b5_9 :: (b2_2 :: [])))))) (List.map D.str (List.map Mb.nm ((sortMb L).take k))) va3_16 hd3_16) mixed y26 zz26 (fun W W' k h => h.ext k) A3_16 ?_
    refine .i (fo 3 (hbs rfl e5) Try.underlying33 rfl sz23 rfl) ?_
    refine .i (lo1 (hlc rfl) own_b5_9 nb_b5_9_ar14_16 agg23 sz23 rfl) ?_
    refine .i (fo 0 (hbs rfl e7) Try.underlying67 rfl sz9 rfl) ?_
    refine .i (lo1 (hlc rfl) own_b7_22 nb_b7_22_ar14 agg9 sz9 rfl) ?_
    refine .op (φ := IsD (SF w (b7_22 :: (blks hd4_16 ++ (blks hd3_16 ++ (b5_9 :: (b2_2 :: [])))))) (strsD ([((sortMb L)[k]'hlt).nm]))) (st_d (sub_nbF (fun b hb => List.mem_cons_of_mem _ (List.mem_append_right _ (List.mem_append_left _ hb))))) (sp_bsl (ds := [D.str (((sortMb L)[k]'hlt).nm)]) Try.underlying23 sz9 z9 (lbr rfl) (lbr rfl) ⟨rfl, ((hlc rfl).str hb_v19_22_0), trivial⟩ rfl (by simp [width]) (fr_sf kw (in_cons own_b7_22.lt (in_app A4_16.lt (in_app A3_16.lt (in_cons own_b5_9.lt (in_cons own_b2_2.lt in_nil))))))) ?_
    refine .appB (ds := List.map D.str (List.map Mb.nm ((sortMb L).take k))) (es := [D.str (((sortMb L)[k]'hlt).nm)]) (X := SF w (b7_22 :: (blks hd4_16 ++ (blks hd3_16 ++ (b5_9 :: (b2_2 :: [])))))) Try.underlying23 inf9 (lbr rfl) (hlc rfl) (hlc rfl) (sub_nbF (fun b hb => List.mem_cons_of_mem _ (List.mem_append_right _ (List.mem_append_left _ hb)))) (by simp [maxLen]; omega) (by simp; omega) kw.size ?_
    refine .i (fo 3 (hbs rfl e5) Try.underlying33 rfl sz23 rfl) ?_
    refine .done ⟨by kernel_rfl, fun a32 g W32 y32 zz32 hk hg hV hR hP => ?_⟩
    obtain ⟨e40, e39, -, -, -, -, -, -⟩ := hV
    replace e2 := (hR 2 rfl).trans e2
    replace e4 := (hR 4 rfl).trans e4
    replace e5 := (hR 5 rfl).trans e5
    replace e13 := (hR 13 rfl).trans e13
    replace e14 := (hR 14 rfl).trans e14
    replace e15 := (hR 15 rfl).trans e15
    replace e7 := (hR 7 rfl).trans e7
    obtain ⟨v39_32, ev⟩ : ∃ v, sl a32 39 = v := ⟨_, rfl⟩
    rw [ev] at e39
    obtain ⟨hd39_32, A_39_32, hf39_32⟩ := e39
    have e39 := ev; clear ev
    obtain ⟨v39_32a, v39_32n, v39_32c, ev⟩ := arr_sl A_39_32; subst ev
    replace A_39_32 := arrF_new (M' := (b7_22 :: (blks hd4_16 ++ (blks hd39_32 ++ (b5_9 :: (b2_2 :: [])))))) A_39_32 (rep_cons (rep_app rep_refl (rep_app (rep_q fun _ h => h) (rep_cons (rep_cons rep_nil)))))
    replace A_39_32 : Arr W32 w.heap.size 9 1 (SF w (b7_22 :: (blks hd4_16 ++ (blks hd39_32 ++ (b5_9 :: (b2_2 :: [])))))) (List.map D.str ((List.map Mb.nm ((sortMb L).take k)) ++ [((sortMb L)[k]'hlt).nm])) (.slice v39_32a v39_32n v39_32c) hd39_32 := by first | exact A_39_32 | (rw [List.map_append]; exact A_39_32)
    have nb_b2_2_32 : b2_2 ∉ blks hd39_32 := nb_new nb_b2_2_ar14_16 own_b2_2.lt hf39_32
    have nb_b5_9_32 : b5_9 ∉ blks hd39_32 := nb_new nb_b5_9_ar14_16 own_b5_9.lt hf39_32
    have nb_b7_22_32 : b7_22 ∉ blks hd39_32 := nb_new nb_b7_22_ar14 own_b7_22.lt hf39_32
    have dj_ar15_32 : ∀ b ∈ blks hd4_16, b ∉ blks hd39_32 := dj_new (dj_symm dj_ar14_ar15_16) A4_16.lt hf39_32
    replace A4_16 := arrF_app (M' := (b7_22 :: (blks hd4_16 ++ (blks hd39_32 ++ (b5_9 :: (b2_2 :: [])))))) A4_16 hk (fun b hb => List.mem_cons_of_mem _ (List.mem_append_right _ (List.mem_append_left _ hb))) (rep_cons (rep_app rep_refl (rep_app hf39_32 (rep_cons (rep_cons rep_nil))))) (dj_symm dj_ar14_ar15_16)
    replace D_v9_4 := sa_app (M' := (b7_22 :: (blks hd4_16 ++ (blks hd39_32 ++ (b5_9 :: (b2_2 :: [])))))) D_v9_4 hk (fun b hb => List.mem_cons_of_mem _ (List.mem_append_right _ (List.mem_append_left _ hb))) (rep_cons (rep_app rep_refl (rep_app hf39_32 (rep_cons (rep_cons rep_nil)))))
    replace D_v19_22_4 := sa_app (M' := (b7_22 :: (blks hd4_16 ++ (blks hd39_32 ++ (b5_9 :: (b2_2 :: [])))))) D_v19_22_4 hk (fun b hb => List.mem_cons_of_mem _ (List.mem_append_right _ (List.mem_append_left _ hb))) (rep_cons (rep_app rep_refl (rep_app hf39_32 (rep_cons (rep_cons rep_nil)))))
    replace D_v19_22_5 := sa_app (M' := (b7_22 :: (blks hd4_16 ++ (blks hd39_32 ++ (b5_9 :: (b2_2 :: [])))))) D_v19_22_5 hk (fun b hb => List.mem_cons_of_mem _ (List.mem_append_right _ (List.mem_append_left _ hb))) (rep_cons (rep_app rep_refl (rep_app hf39_32 (rep_cons (rep_cons rep_nil)))))
    replace own_b2_2 := own_app own_b2_2 hk nb_b2_2_ar14_16
    replace own_b5_9 := own_app own_b5_9 hk nb_b5_9_ar14_16
    replace own_b7_22 := own_app own_b7_22 hk nb_b7_22_ar14
    replace kw := keeps_app kw hk A3_16.ge
    have e40 : sl a32 40 = (.pointer (some ⟨b5_9, 3, none⟩)) := e40
    clear hR hk hg hP hf39_32 A3_16
    refine tail_store (b := b5_9) (o := 3) (v := (.slice v39_32a v39_32n v39_32c)) e40 e39 sz23 rfl own_b5_9 (lbr rfl) (all_cons rfl all_nil) (fun W33 hs own_b5_9 => ?_)
    have own_b5_9 : Own W33 b5_9 [(.int .u8 (5)), (.int .i64 (0)), (.string (⟨#[]⟩)), (.slice v39_32a v39_32n v39_32c), va4_16] 33 := own_b5_9
    replace own_b2_2 := own_store own_b2_2 hs ne_b2_2_b5_9
    replace own_b7_22 := own_store own_b7_22 hs ne_b5_9_b7_22.symm
    replace D_v9_4 := sa_store D_v9_4 hs (by simp)
    replace D_v19_22_4 := sa_store D_v19_22_4 hs (by simp)
    replace D_v19_22_5 := sa_store D_v19_22_5 hs (by simp)
    replace A_39_32 := arrF_store A_39_32 hs (by simp) nb_b5_9_32
    replace A4_16 := arrF_store A4_16 hs (by simp) nb_b5_9_ar15_16
    replace kw := keeps_store kw hs lo_b5_9
    clear hs
    refine tail_nil (hK31 _ _ ?_)
    refine wp_reg (fun k => k ∉ blks hd4_16) (Ψ := fun W => Arr W w.heap.size 33 5 (SF w (b7_22 :: (blks hd4_16 ++ (blks hd39_32 ++ (b5_9 :: (b2_2 :: [])))))) (List.map V.d (List.map Mb.v ((sortMb L).take k))) va4_16 hd4_16) mixed y32 zz32 (fun W W' k h => h.ext k) A4_16 ?_
    refine .i (fo 4 (hbs rfl e5) Try.underlying33 rfl sz31 rfl) ?_
    refine .i (lo1 (hlc rfl) own_b5_9 nb_b5_9_ar15_16 agg31 sz31 rfl) ?_
    refine .i (fo 1 (hbs rfl e7) Try.underlying67 rfl sz33 rfl) ?_
    refine .i (v := (.agg #[(.int .u8 (((sortMb L)[k]'hlt).v.k)), (.int .i64 (((sortMb L)[k]'hlt).v.n)), (.string (((sortMb L)[k]'hlt).v.t)), (.slice v19_22_4a ((((sortMb L)[k]'hlt).v.ns).length) v19_22_4c), (.slice v19_22_5a ((((sortMb L)[k]'hlt).v.xs).length) v19_22_5c)])) (loA (hlc rfl) own_b7_22 nb_b7_22_ar15 agg33 sz33 rfl rfl) ?_
    refine .op (φ := IsD (Fr W33) (V.d (((sortMb L)[k]'hlt).v))) (st_d (sub_frnb (fun b hb => A4_16.lt b hb))) (sp_call1 (φ1 := IsD (SA w S (b7_22 :: (blks hd4_16 ++ (blks hd39_32 ++ (b5_9 :: (b2_2 :: [])))))) (V.d (((sortMb L)[k]'hlt).v))) ent79 ((hlc rfl).dat (rdV_in (x := ((sortMb L)[k]'hlt).v) hb_v19_22_3 D_v19_22_4 D_v19_22_5 : Rd W33 (SA w S (b7_22 :: (blks hd4_16 ++ (blks hd39_32 ++ (b5_9 :: (b2_2 :: [])))))) (V.d (((sortMb L)[k]'hlt).v)) _) (sub_nb (fun b hb => List.mem_cons_of_mem _ (List.mem_append_left _ hb)))) (fun g u1 W hk hgk h1 => (Copy_ok (((sortMb L)[k]'hlt).v) (by first | omega | exact Nat.le_of_ble_eq_true (by kernel_rfl)) W _ _ (fun b o h => sa_cln hS b o h.1) h1).mono (ret_fr hk hgk))) ?_
    refine .op (φ := IsD (SF w (b7_22 :: (blks hd4_16 ++ (blks hd39_32 ++ (b5_9 :: (b2_2 :: [])))))) (valsD ([((sortMb L)[k]'hlt).v]))) (st_d (sub_nbF (fun b hb => List.mem_cons_of_mem _ (List.mem_append_left _ hb)))) (sp_bsl (ds := [V.d (((sortMb L)[k]'hlt).v)]) Try.underlying31 sz33 z33 (lbr rfl) (lbr rfl) ⟨rfl, ((hlc rfl).sup (fr_sf kw (in_cons own_b7_22.lt (in_app A4_16.lt (in_app A_39_32.lt (in_cons own_b5_9.lt (in_cons own_b2_2.lt in_nil))))))), trivial⟩ rfl (by intro e he; simp at he; rcases he with rfl <;> exact width_V _) (fr_sf kw (in_cons own_b7_22.lt (in_app A4_16.lt (in_app A_39_32.lt (in_cons own_b5_9.lt (in_cons own_b2_2.lt in_nil))))))) ?_
    refine .appB (ds := List.map V.d (List.map Mb.v ((sortMb L).take k))) (es := [V.d (((sortMb L)[k]'hlt).v)]) (X := SF w (b7_22 :: (blks hd4_16 ++ (blks hd39_32 ++ (b5_9 :: (b2_2 :: [])))))) Try.underlying31 inf33 (lbr rfl) (hlc rfl) (hlc rfl) (sub_nbF (fun b hb => List.mem_cons_of_mem _ (List.mem_append_left _ hb))) (by simp [maxLen]; omega) (by simp; omega) kw.size ?_
    refine .i (fo 4 (hbs rfl e5) Try.underlying33 rfl sz31 rfl) ?_
    refine .done ⟨by kernel_rfl, fun a34 g W34 y34 zz34 hk hg hV hR hP => ?_⟩
    obtain ⟨e48, e47, -, -, -, -, -, -, -⟩ := hV
    replace e2 := (hR 2 rfl).trans e2
    replace e4 := (hR 4 rfl).trans e4
    replace e5 := (hR 5 rfl).trans e5
    replace e13 := (hR 13 rfl).trans e13
    replace e14 := (hR 14 rfl).trans e14
    replace e15 := (hR 15 rfl).trans e15
    obtain ⟨v47_34, ev⟩ : ∃ v, sl a34 47 = v := ⟨_, rfl⟩
    rw [ev] at e47
    obtain ⟨hd47_34, A_47_34, hf47_34⟩ := e47
    have e47 := ev; clear ev
    obtain ⟨v47_34a, v47_34n, v47_34c, ev⟩ := arr_sl A_47_34; subst ev
    replace A_47_34 := arrF_new (M' := (b7_22 :: (blks hd47_34 ++ (blks hd39_32 ++ (b5_9 :: (b2_2 :: [])))))) A_47_34 (rep_cons (rep_app (rep_q fun _ h => h) (rep_app rep_refl (rep_cons (rep_cons rep_nil)))))
    replace A_47_34 : Arr W34 w.heap.size 33 5 (SF w (b7_22 :: (blks hd47_34 ++ (blks hd39_32 ++ (b5_9 :: (b2_2 :: [])))))) (List.map V.d ((List.map Mb.v ((sortMb L).take k)) ++ [((sortMb L)[k]'hlt).v])) (.slice v47_34a v47_34n v47_34c) hd47_34 := by first | exact A_47_34 | (rw [List.map_append]; exact A_47_34)
    have nb_b2_2_34 : b2_2 ∉ blks hd47_34 := nb_new nb_b2_2_ar15_16 own_b2_2.lt hf47_34
    have nb_b5_9_34 : b5_9 ∉ blks hd47_34 := nb_new nb_b5_9_ar15_16 own_b5_9.lt hf47_34
    have nb_b7_22_34 : b7_22 ∉ blks hd47_34 := nb_new nb_b7_22_ar15 own_b7_22.lt hf47_34
    have dj_ar14_34 : ∀ b ∈ blks hd39_32, b ∉ blks hd47_34 := dj_new (dj_symm dj_ar15_32) A_39_32.lt hf47_34
    replace A_39_32 := arrF_app (M' := (b7_22 :: (blks hd47_34 ++ (blks hd39_32 ++ (b5_9 :: (b2_2 :: [])))))) A_39_32 hk (fun b hb => List.mem_cons_of_mem _ (List.mem_append_left _ hb)) (rep_cons (rep_app hf47_34 (rep_app rep_refl (rep_cons (rep_cons rep_nil))))) (dj_symm dj_ar15_32)
    replace D_v9_4 := sa_app (M' := (b7_22 :: (blks hd47_34 ++ (blks hd39_32 ++ (b5_9 :: (b2_2 :: [])))))) D_v9_4 hk (fun b hb => List.mem_cons_of_mem _ (List.mem_append_left _ hb)) (rep_cons (rep_app hf47_34 (rep_app rep_refl (rep_cons (rep_cons rep_nil)))))
    replace D_v19_22_4 := sa_app (M' := (b7_22 :: (blks hd47_34 ++ (blks hd39_32 ++ (b5_9 :: (b2_2 :: [])))))) D_v19_22_4 hk (fun b hb => List.mem_cons_of_mem _ (List.mem_append_left _ hb)) (rep_cons (rep_app hf47_34 (rep_app rep_refl (rep_cons (rep_cons rep_nil)))))
    replace D_v19_22_5 := sa_app (M' := (b7_22 :: (blks hd47_34 ++ (blks hd39_32 ++ (b5_9 :: (b2_2 :: [])))))) D_v19_22_5 hk (fun b hb => List.mem_cons_of_mem _ (List.mem_append_left _ hb)) (rep_cons (rep_app hf47_34 (rep_app rep_refl (rep_cons (rep_cons rep_nil)))))
    replace own_b2_2 := own_app own_b2_2 hk nb_b2_2_ar15_16
    replace own_b5_9 := own_app own_b5_9 hk nb_b5_9_ar15_16
    replace own_b7_22 := own_app own_b7_22 hk nb_b7_22_ar15
    replace kw := keeps_app kw hk A4_16.ge
    have e48 : sl a34 48 = (.pointer (some ⟨b5_9, 4, none⟩)) := e48
    clear hR hk hg hP hf47_34 A4_16
    refine tail_store (b := b5_9) (o := 4) (v := (.slice v47_34a v47_34n v47_34c)) e48 e47 sz31 rfl own_b5_9 (lbr rfl) (all_cons rfl all_nil) (fun W35 hs own_b5_9 => ?_)
    have own_b5_9 : Own W35 b5_9 [(.int .u8 (5)), (.int .i64 (0)), (.string (⟨#[]⟩)), (.slice v39_32a v39_32n v39_32c), (.slice v47_34a v47_34n v47_34c)] 33 := own_b5_9
    replace own_b2_2 := own_store own_b2_2 hs ne_b2_2_b5_9
    replace own_b7_22 := own_store own_b7_22 hs ne_b5_9_b7_22.symm
    replace D_v9_4 := sa_store D_v9_4 hs (by simp)
    replace D_v19_22_4 := sa_store D_v19_22_4 hs (by simp)
    replace D_v19_22_5 := sa_store D_v19_22_5 hs (by simp)
    replace A_39_32 := arrF_store A_39_32 hs (by simp) nb_b5_9_32
    replace A_47_34 := arrF_store A_47_34 hs (by simp) nb_b5_9_34
    replace kw := keeps_store kw hs lo_b5_9
    clear hs
    refine tail_nil (hK20 _ _ ?_)
    refine rg mixed y34 zz34 ?_
    refine .i (sp_add (hbs rfl e15) Has.cst (i64_in (by omega))) ?_
    refine .i (sp_move (hlc rfl)) ?_
    refine .done ⟨by kernel_rfl, fun a36 g W36 y36 zz36 hk hg hV hR hP => ?_⟩
    obtain ⟨e15, -, -⟩ := hV
    replace e2 := (hR 2 rfl).trans e2
    replace e4 := (hR 4 rfl).trans e4
    replace e5 := (hR 5 rfl).trans e5
    replace e13 := (hR 13 rfl).trans e13
    replace e14 := (hR 14 rfl).trans e14
    replace A_39_32 := A_39_32.ext hk
    replace A_47_34 := A_47_34.ext hk
    replace D_v9_4 := D_v9_4.ext hk
    replace e15 := e15.q
    replace own_b2_2 := own_b2_2.ext hk
    replace own_b5_9 := own_b5_9.ext hk
    replace own_b7_22 := own_b7_22.ext hk
    replace kw := kw.x hk
    clear hR hk hg hP
    rw [show (List.map Mb.nm ((sortMb L).take k)) ++ [((sortMb L)[k]'hlt).nm] = List.map Mb.nm ((sortMb L).take (k + 1)) by rw [List.take_succ_eq_append_getElem hlt, List.map_append]; rfl] at A_39_32
    rw [show (List.map Mb.v ((sortMb L).take k)) ++ [((sortMb L)[k]'hlt).v] = List.map Mb.v ((sortMb L).take (k + 1)) by rw [List.take_succ_eq_append_getElem hlt, List.map_append]; rfl] at A_47_34
    exact tail_nil ⟨hlt, (.slice v39_32a v39_32n v39_32c), hd39_32, (.slice v47_34a v47_34n v47_34c), hd47_34, y36, zz36, kw, e2, e4, e5, e13, e14, (e15.trans (congrArg (Value.int .i64) (by simp))), own_b2_2, own_b5_9, (sa_less D_v9_4 (ls_skip (ls_keepA (ls_keepA (ls_keep (ls_keep ls_nil)))))), (arrF_less A_39_32 (ls_skip (ls_keepA (ls_keepA (ls_keep (ls_keep ls_nil)))))), nb_b2_2_32, nb_b5_9_32, (arrF_less A_47_34 (ls_skip (ls_keepA (ls_keepA (ls_keep (ls_keep ls_nil)))))), nb_b2_2_34, nb_b5_9_34, dj_ar14_34, fun i h hi => by rcases Nat.lt_succ_iff_lt_or_eq.1 hi with h1 | h1; exact hinv i h h1; subst h1; exact hk1 (by omega)⟩
  ·
   have hge0 : ¬ k < (sortMb L).length := by simpa using hc
   have hge : k = (sortMb L).length := by omega
   have hadj : adj (sortMb L) = false := adj_false _ fun i h => hinv i h (by omega)
   have hoe : objE L = 0 := by rw [objE, hadj]; rfl
   have hov : objM L = ⟨5, 0, ⟨#[]⟩, (sortMb L).map Mb.nm, (sortMb L).map Mb.v⟩ := by rw [objM, hadj]; rfl
   rw [show List.map Mb.nm ((sortMb L).take k) = List.map Mb.nm (sortMb L) by rw [hge, List.take_length]] at A3_16
   have D_va3_16 : Rd W18 (SF w (blks hd4_16 ++ (b5_9 :: (b2_2 :: [])))) (strsD (List.map Mb.nm (sortMb L))) va3_16 := arrF_rd A3_16 (ls_keepA (ls_skipA (ls_keep (ls_keep ls_nil)))) (nin_app dj_ar14_ar15_16 (nin_cons nb_b5_9_ar14_16 (nin_cons nb_b2_2_ar14_16 nin_nil)))
   obtain ⟨va3_16a, va3_16c, ev, D2⟩ := rdS_out D_va3_16
   subst ev; replace D_va3_16 := D2; clear D2
   replace D_v9_4 := sa_less (M' := (blks hd4_16 ++ (b5_9 :: (b2_2 :: [])))) D_v9_4 (ls_keepA (ls_skipA (ls_keep (ls_keep ls_nil))))
   replace A4_16 := arrF_less (M' := (blks hd4_16 ++ (b5_9 :: (b2_2 :: [])))) A4_16 (ls_keepA (ls_skipA (ls_keep (ls_keep ls_nil))))
   rw [show List.map Mb.v ((sortMb L).take k) = List.map Mb.v (sortMb L) by rw [hge, List.take_length]] at A4_16
   have D_va4_16 : Rd W18 (SF w [b5_9, b2_2]) (valsD (List.map Mb.v (sortMb L))) va4_16 := arrF_rd A4_16 (ls_skipA (ls_keep (ls_keep ls_nil))) (nin_cons nb_b5_9_ar15_16 (nin_cons nb_b2_2_ar15_16 nin_nil))
   obtain ⟨va4_16a, va4_16c, ev, D2⟩ := rdVs_out D_va4_16
   subst ev; replace D_va4_16 := D2; clear D2
   replace D_v9_4 := sa_less (M' := [b5_9, b2_2]) D_v9_4 (ls_skipA (ls_keep (ls_keep ls_nil)))
   replace D_va3_16 := sf_less (M' := [b5_9, b2_2]) D_va3_16 (ls_skipA (ls_keep (ls_keep ls_nil)))
   refine wp_exit (hK11 _ _ ?_)
   refine wp_seq_k fun K37 hK37 => ?_
   refine rg mixed y18 zz18 ?_
   refine .i (v := (.agg #[(.int .u8 (5)), (.int .i64 (0)), (.string (⟨#[]⟩)), (.slice va3_16a ((List.map Mb.nm (sortMb L)).length) va3_16c), (.slice va4_16a ((List.map Mb.v (sortMb L)).length) va4_16c)])) (loA (hbs rfl e5) own_b5_9 trivial agg33 sz33 rfl rfl) ?_
   refine .done ⟨by kernel_rfl, fun a38 g W38 y38 zz38 hk hg hV hR hP => ?_⟩
   obtain ⟨e50, -⟩ := hV
   replace e2 := (hR 2 rfl).trans e2
   replace D_v9_4 := D_v9_4.ext hk
   replace D_va3_16 := D_va3_16.ext hk
   replace D_va4_16 := D_va4_16.ext hk
   replace e50 := e50.q
   replace own_b2_2 := own_b2_2.ext hk
   replace own_b5_9 := own_b5_9.ext hk
   replace kw := kw.x hk
   clear hR hk hg hP
   refine tail_store (b := b2_2) (o := 0) (v := (.agg #[(.int .u8 (5)), (.int .i64 (0)), (.string (⟨#[]⟩)), (.slice va3_16a ((List.map Mb.nm (sortMb L)).length) va3_16c), (.slice va4_16a ((List.map Mb.v (sortMb L)).length) va4_16c)])) e2 e50 sz33 rfl own_b2_2 (lbr rfl) (all_cons rfl (all_cons rfl (all_cons rfl (all_cons rfl (all_cons rfl all_nil))))) (fun W39 hs own_b2_2 => ?_)
   have own_b2_2 : Own W39 b2_2 [(.int .u8 (5)), (.int .i64 (0)), (.string (⟨#[]⟩)), (.slice va3_16a ((List.map Mb.nm (sortMb L)).length) va3_16c), (.slice va4_16a ((List.map Mb.v (sortMb L)).length) va4_16c)] 33 := own_b2_2
   replace own_b5_9 := own_store own_b5_9 hs ne_b2_2_b5_9.symm
   replace D_v9_4 := sa_store D_v9_4 hs (by simp)
   replace D_va3_16 := sf_store D_va3_16 hs (by simp)
   replace D_va4_16 := sf_store D_va4_16 hs (by simp)
   replace kw := keeps_store kw hs lo_b2_2
   clear hs
   refine tail_assign (v := (.int .i64 (0))) rfl (by rw [y38]; exact Nat.le_of_ble_eq_true rfl) (fun a40 y40 zz40 e3 hr => ?_)
   replace y40 := y40.trans y38; replace zz40 := zz40.trans zz38
   replace e2 := (hr 2 (by decide)).trans e2
   replace e50 := (hr 50 (by decide)).trans e50
   clear hr
   refine tail_nil (hK37 _ _ ?_)
   refine wp_ret ?_
   refine (show bodyPost Try.prog Try.f38 _ .ret _ _ from retCT (v := (.agg #[(.int .u8 (5)), (.int .i64 (0)), (.string (⟨#[]⟩)), (.slice va3_16a ((List.map Mb.nm (sortMb L)).length) va3_16c), (.slice va4_16a ((List.map Mb.v (sortMb L)).length) va4_16c)])) rfl zz40 e2 own_b2_2 agg33 sz33 rfl (fun h => by cases h) rfl e3 ⟨_, rfl, kw, ?_⟩)
   refine ⟨_, by rw [hoe], ?_⟩
   rw [hov]
   exact sf_fr (rdV_mk (lbr rfl) D_va3_16 D_va4_16 : Rd W39 (SF w [b5_9, b2_2]) (V.d (V.mk (5) (0) (⟨#[]⟩) (List.map Mb.nm (sortMb L)) (List.map Mb.v (sortMb L)))) _)
end Go.Proofs.Ytnobijngkpflcaa
namespace Go.Eng
def hexB (c : Nat) : Bool := (decide (48 ≤ c) && decide (c ≤ 57)) || (decide (97 ≤ c) && decide (c ≤ 102))
def hexV (c : Nat) : Int := if 48 ≤ c ∧ c ≤ 57 then c - 48 else if 97 ≤ c ∧ c ≤ 102 then c - 97 + 10 else 0
def hexIs (s : ByteArray) : Bool := s.data.toList.all fun c => hexB c.toNat
theorem hexIs_iff (s : ByteArray) : hexIs s = true ↔ ∀ i (h : i < s.size), hexB (s[i]'h).toNat = true := by
  unfold hexIs
  rw [List.all_eq_true]
  constructor
  · intro h i hi
    exact h _ (by rw [ByteArray.getElem_eq_getElem_data]; simp)
  · intro h c hc
    obtain ⟨i, hi, rfl⟩ := List.getElem_of_mem hc
    have hi' : i < s.size := by simpa using hi
    have := h i hi'
    rw [ByteArray.getElem_eq_getElem_data] at this
    simpa using this
theorem hexIs_false {s : ByteArray} {i : Nat} (h : i < s.size) (hf : hexB (s[i]'h).toNat = false) : hexIs s = false := by
  cases hq : hexIs s with
  | false => rfl
  | true => have := (hexIs_iff s).1 hq i h; rw [hf] at this; cases this
theorem Au.ext' {a b : Au} (h1 : a.th = b.th) (h2 : a.ids = b.ids) : a = b := by cases a; cases b; simp_all
end Go.Eng
namespace Go.Proofs.Ytnobijngkpflcaa
open Go.Eng
set_option maxRecDepth 100000 in
theorem digit_ok (s : ByteArray) (i : Nat) (hi : i < s.size) (hm : s.size ≤ maxLen) (w : World) : Calls Try.prog 152 #[.string s, .int .i64 i] w (Ret w fun u _ => u = .tuple #[.int .i64 (hexV (s[i]'hi).toNat), .bool (hexB (s[i]'hi).toNat)]) := by
  simp only [maxLen] at hm
  have hc8 : (s[i]'hi).toNat < 256 := UInt8.toNat_lt _
  refine enter Try.func152 rfl Try.ntmps152 (lbr rfl) fun a0 y0 zz0 harg => ?_
  have e0 : sl a0 0 = (.string (s)) := harg 0 (lbr rfl)
  have e1 : sl a0 1 = (.int .i64 ((i : Nat))) := harg 1 (lbr rfl)
  have kw := Keeps.refl All w
  clear harg
  refine wp_seq_k fun K1 hK1 => ?_
  refine rg mixed y0 zz0 ?_
  refine .i (sp_assign Has.cst) ?_
  refine .i (sp_assign Has.cst) ?_
  refine .done ⟨by kernel_rfl, fun a2 g W2 y2 zz2 hk hg hV hR hP => ?_⟩
  obtain ⟨-, -, -⟩ := hV
  replace e0 := (hR 0 rfl).trans e0
  replace e1 := (hR 1 rfl).trans e1
  replace kw := kw.x hk
  clear hR hk hg hP
  refine tail_nil (hK1 _ _ ?_)
  refine wp_seq_k fun K3 hK3 => ?_
  refine wp_seq_k fun K4 hK4 => ?_
  refine rg mixed y2 zz2 ?_
  refine .i (sp_move (hbs rfl e1)) ?_
  refine .i (sp_lss (hlc rfl) Has.cst) ?_
  refine .i (sp_move (hlc rfl)) ?_
  refine .e (t := 9) rfl (hlc rfl) (fun hg => sp_move (hbs rfl e1)) ?_
  refine .e (t := 9) rfl (hlc rfl) (fun hg => sp_move (hbs rfl e0)) ?_
  refine .e (t := 9) rfl (hlc rfl) (fun hg => sp_lenS Try.underlying9 ((hlc rfl).undE hg)) ?_
  refine .e (t := 9) rfl (hlc rfl) (fun hg => sp_geq ((hlc rfl).undE hg) ((hlc rfl).undE hg)) ?_
  refine .i (sp_or (hlc rfl) ((hlc rfl).weak fun hq => hq)) ?_
  refine .done ⟨by kernel_rfl, fun a5 g W5 y5 zz5 hk hg hV hR hP => ?_⟩
  obtain ⟨e14, -, -, -, -, -, -, -, -⟩ := hV
  replace e0 := (hR 0 rfl).trans e0
  replace e1 := (hR 1 rfl).trans e1
  replace e14 := e14.q
  replace kw := kw.x hk
  clear hR hk hg hP
  refine tail_nil (hK4 _ _ ?_)
  refine wp_cond_split e14 (fun hc => ?_) (fun hc => ?_)
  ·
   exfalso
   simp at hc
   omega
  ·
   refine wp_skip (hK3 _ _ ?_)
   refine wp_seq_k fun K6 hK6 => ?_
   refine wp_seq_k fun K7 hK7 => ?_
   refine rg mixed y5 zz5 ?_
   refine .i (sp_move (hbs rfl e0)) ?_
   refine .i (sp_move (hbs rfl e1)) ?_
   refine .i (v := (.int .u8 (((s[i]'hi).toNat : Nat)))) (sp_indexStr (i := i) Try.underlying9 (hlc rfl) (hlc rfl) rfl hi) ?_
   refine .i (sp_assign (hlc rfl)) ?_
   refine .done ⟨by kernel_rfl, fun a8 g W8 y8 zz8 hk hg hV hR hP => ?_⟩
   obtain ⟨e6, -, -, -, -⟩ := hV
   have e6 : sl a8 6 = (.int .u8 (((s[i]'hi).toNat : Nat))) := e6
   replace kw := kw.x hk
   clear hR hk hg hP
   refine tail_nil (hK7 _ _ ?_)
   refine wp_block ?_
   refine wp_seq_k fun K9 hK9 => ?_
   refine rg mixed y8 zz8 ?_
   refine .i (sp_move (hbs rfl e6)) ?_
   refine .i (sp_leq Has.cst (hlc rfl)) ?_
   refine .i (sp_move (hlc rfl)) ?_
   refine .e (t := 21) rfl (hlc rfl) (fun hg => sp_move (hbs rfl e6)) ?_
   refine .e (t := 21) rfl (hlc rfl) (fun hg => sp_leq ((hlc rfl).undE hg) Has.cst) ?_
   refine .i (sp_and (hlc rfl) ((hlc rfl).weak fun hq => hq)) ?_
   refine .i (sp_assign (hlc rfl)) ?_
   refine .done ⟨by kernel_rfl, fun a10 g W10 y10 zz10 hk hg hV hR hP => ?_⟩
   obtain ⟨e18, -, -, -, -, -, -, -⟩ := hV
   replace e6 := (hR 6 rfl).trans e6
   replace e18 := e18.q
   replace kw := kw.x hk
   clear hR hk hg hP
   refine tail_nil (hK9 _ _ ?_)
   refine wp_cond_split e18 (fun hc => ?_) (fun hc => ?_)
   ·
    have h1 : 48 ≤ (s[i]'hi).toNat ∧ (s[i]'hi).toNat ≤ 57 := by simp at hc; omega
    have hfin : hexV (s[i]'hi).toNat = (s[i]'hi).toNat - 48 ∧ hexB (s[i]'hi).toNat = true := ⟨by rw [hexV, if_pos h1], by simp [hexB, h1]⟩
    refine wp_seq_k fun K11 hK11 => ?_
    refine rg mixed y10 zz10 ?_
    refine .i (sp_move (hbs rfl e6)) ?_
    refine .i (sp_sub (hlc rfl) Has.cst (u8_in (by omega))) ?_
    refine .i (v := (.int .i64 ((((s[i]'hi).toNat : Nat) : Int) - (48 : Int)))) (sp_conv Try.underlying5 Try.underlying3 (hlc rfl) (i64_in (by omega))) ?_
    refine .i (sp_assign (hlc rfl)) ?_
    refine .i (sp_assign Has.cst) ?_
    refine .done ⟨by kernel_rfl, fun a12 g W12 y12 zz12 hk hg hV hR hP => ?_⟩
    obtain ⟨e5, e4, -, -, -, -⟩ := hV
    replace e4 := e4.q
    have e5 : sl a12 5 = (.bool (true)) := e5
    replace kw := kw.x hk
    clear hR hk hg hP
    refine tail_nil (hK11 _ _ ?_)
    refine wp_ret ?_
    refine (show bodyPost Try.prog Try.f152 _ .ret _ _ from ret2 rfl zz12 e4 e5 ⟨_, rfl, kw, ?_⟩)
    rw [hfin.1, hfin.2]
   ·
    have h1 : ¬ (48 ≤ (s[i]'hi).toNat ∧ (s[i]'hi).toNat ≤ 57) := by simp at hc; omega
    refine wp_seq_k fun K13 hK13 => ?_
    refine rg mixed y10 zz10 ?_
    refine .i (sp_move (hbs rfl e6)) ?_
    refine .i (sp_leq Has.cst (hlc rfl)) ?_
    refine .i (sp_move (hlc rfl)) ?_
    refine .e (t := 31) rfl (hlc rfl) (fun hg => sp_move (hbs rfl e6)) ?_
    refine .e (t := 31) rfl (hlc rfl) (fun hg => sp_leq ((hlc rfl).undE hg) Has.cst) ?_
    refine .i (sp_and (hlc rfl) ((hlc rfl).weak fun hq => hq)) ?_
    refine .i (sp_assign (hlc rfl)) ?_
    refine .done ⟨by kernel_rfl, fun a14 g W14 y14 zz14 hk hg hV hR hP => ?_⟩
    obtain ⟨e28, -, -, -, -, -, -, -⟩ := hV
    replace e6 := (hR 6 rfl).trans e6
    replace e28 := e28.q
    replace kw := kw.x hk
    clear hR hk hg hP
    refine tail_nil (hK13 _ _ ?_)
    refine wp_cond_split e28 (fun hc => ?_) (fun hc => ?_)
    ·
     have h2 : 97 ≤ (s[i]'hi).toNat ∧ (s[i]'hi).toNat ≤ 102 := by simp at hc; omega
     have hfin : hexV (s[i]'hi).toNat = (s[i]'hi).toNat - 97 + 10 ∧ hexB (s[i]'hi).toNat = true := ⟨by rw [hexV, if_neg h1, if_pos h2], by simp [hexB, h2]⟩
     refine wp_seq_k fun K15 hK15 => ?_
     refine rg mixed y14 zz14 ?_
     refine .i (sp_move (hbs rfl e6)) ?_
     refine .i (sp_sub (hlc rfl) Has.cst (u8_in (by omega))) ?_
     refine .i (v := (.int .i64 ((((s[i]'hi).toNat : Nat) : Int) - (97 : Int)))) (sp_conv Try.underlying5 Try.underlying3 (hlc rfl) (i64_in (by omega))) ?_
     refine .i (sp_add (hlc rfl) Has.cst (i64_in (by omega))) ?_
     refine .i (sp_assign (hlc rfl)) ?_
     refine .i (sp_assign Has.cst) ?_
     refine .done ⟨by kernel_rfl, fun a16 g W16 y16 zz16 hk hg hV hR hP => ?_⟩
     obtain ⟨e5, e4, -, -, -, -, -⟩ := hV
     replace e4 := e4.q
     have e5 : sl a16 5 = (.bool (true)) := e5
     replace kw := kw.x hk
     clear hR hk hg hP
     refine tail_nil (hK15 _ _ ?_)
     refine wp_ret ?_
     refine (show bodyPost Try.prog Try.f152 _ .ret _ _ from ret2 rfl zz16 e4 e5 ⟨_, rfl, kw, ?_⟩)
     rw [hfin.1, hfin.2]
    ·
     have h2 : ¬ (97 ≤ (s[i]'hi).toNat ∧ (s[i]'hi).toNat ≤ 102) := by simp at hc; omega
     have hfin : hexV (s[i]'hi).toNat = 0 ∧ hexB (s[i]'hi).toNat = false := ⟨by rw [hexV, if_neg h1, if_neg h2], by simp [hexB]; omega⟩
     refine wp_skip (hK6 _ _ ?_)
     refine wp_seq_k fun K17 hK17 => ?_
     refine rg mixed y14 zz14 ?_
     refine .i (sp_assign Has.cst) ?_
     refine .i (sp_assign Has.cst) ?_
     refine .done ⟨by kernel_rfl, fun a18 g W18 y18 zz18 hk hg hV hR hP => ?_⟩
     obtain ⟨e5, e4, -⟩ := hV
     have e4 : sl a18 4 = (.int .i64 (0)) := e4
     have e5 : sl a18 5 = (.bool (false)) := e5
     replace kw := kw.x hk
     clear hR hk hg hP
     refine tail_nil (hK17 _ _ ?_)
     refine wp_ret ?_
     refine (show bodyPost Try.prog Try.f152 _ .ret _ _ from ret2 rfl zz18 e4 e5 ⟨_, rfl, kw, ?_⟩)
     rw [hfin.1, hfin.2]
set_option maxRecDepth 100000 in
theorem hexIs_ok (s : ByteArray) (hm : s.size ≤ maxLen) (w : World) : Calls Try.prog 135 #[.string s] w (Ret w fun u _ => u = .bool (hexIs s)) := by
  have hmx := hm
  simp only [maxLen] at hmx
  refine enter Try.func135 rfl Try.ntmps135 (lbr rfl) fun a0 y0 zz0 harg => ?_
  have e0 : sl a0 0 = (.string (s)) := harg 0 (lbr rfl)
  have kw := Keeps.refl All w
  clear harg
  refine wp_seq_k fun K1 hK1 => ?_
  refine rg mixed y0 zz0 ?_
  refine .i (sp_assign Has.cst) ?_
  refine .done ⟨by kernel_rfl, fun a2 g W2 y2 zz2 hk hg hV hR hP => ?_⟩
  obtain ⟨-, -⟩ := hV
  replace e0 := (hR 0 rfl).trans e0
  replace kw := kw.x hk
  clear hR hk hg hP
  refine tail_nil (hK1 _ _ ?_)
  refine wp_seq_k fun K3 hK3 => ?_
  refine wp_seq_k fun K4 hK4 => ?_
  refine rg mixed y2 zz2 ?_
  refine .i (sp_move (hbs rfl e0)) ?_
  refine .i (sp_lenS Try.underlying9 (hlc rfl)) ?_
  refine .i (sp_move Has.cst) ?_
  refine .done ⟨by kernel_rfl, fun a5 g W5 y5 zz5 hk hg hV hR hP => ?_⟩
  obtain ⟨e8, e7, -, -⟩ := hV
  replace e0 := (hR 0 rfl).trans e0
  have e7 : sl a5 7 = (.int .i64 (s.size)) := e7
  have e8 : sl a5 8 = (.int .i64 (0)) := e8
  replace kw := kw.x hk
  clear hR hk hg hP
  refine tail_nil (hK4 _ _ ?_)
  refine wp_block ?_
  refine wp_for (s.size) (fun k a W => a.tmps.size = 20 ∧ a.defers = [] ∧ Keeps All w W ∧ sl a 0 = (.string (s)) ∧ sl a 7 = (.int .i64 (s.size)) ∧ sl a 8 = (.int .i64 ((k : Nat))) ∧ (∀ i (h : i < s.size), i < k → hexB (s[i]'h).toNat = true)) ⟨y5, zz5, kw, e0, e7, (e8.trans (congrArg (Value.int .i64) (rfl))), fun i h hi => absurd hi (by omega)⟩ ?_
  clear kw e0 e7 e8
  rintro k a6 W6 hkk ⟨y6, zz6, kw, e0, e7, e8, hinv⟩
  refine wp_seq_k fun K7 hK7 => ?_
  refine rg mixed y6 zz6 ?_
  refine .i (sp_lss (hbs rfl e8) (hbs rfl e7)) ?_
  refine .done ⟨by kernel_rfl, fun a8 g W8 y8 zz8 hk hg hV hR hP => ?_⟩
  obtain ⟨e9, -⟩ := hV
  replace e0 := (hR 0 rfl).trans e0
  replace e7 := (hR 7 rfl).trans e7
  replace e8 := (hR 8 rfl).trans e8
  replace e9 := e9.q
  replace kw := kw.x hk
  clear hR hk hg hP
  refine tail_nil (hK7 _ _ ?_)
  refine wp_seq_k fun K9 hK9 => ?_
  refine wp_cond_split e9 (fun hc => ?_) (fun hc => ?_)
  ·
   have hlt : k < s.size := by simpa using hc
   refine wp_skip (hK9 _ _ ?_)
   refine wp_seq_k fun K10 hK10 => ?_
   refine wp_block ?_
   refine wp_seq_k fun K11 hK11 => ?_
   refine rg mixed y8 zz8 ?_
   refine .i (sp_move (hbs rfl e8)) ?_
   refine .i (sp_assign (hlc rfl)) ?_
   refine .done ⟨by kernel_rfl, fun a12 g W12 y12 zz12 hk hg hV hR hP => ?_⟩
   obtain ⟨e3, -, -⟩ := hV
   replace e0 := (hR 0 rfl).trans e0
   replace e7 := (hR 7 rfl).trans e7
   replace e8 := (hR 8 rfl).trans e8
   have e3 : sl a12 3 = (.int .i64 ((k : Nat))) := e3
   replace kw := kw.x hk
   clear hR hk hg hP
   refine tail_nil (hK11 _ _ ?_)
   refine wp_seq_k fun K13 hK13 => ?_
   refine rg mixed y12 zz12 ?_
   refine .i (sp_move (hbs rfl e0)) ?_
   refine .i (sp_move (hbs rfl e3)) ?_
   refine .i (v := (.tuple #[(.int .i64 (hexV (s[k]'hlt).toNat)), (.bool (hexB (s[k]'hlt).toNat))])) (sp_call2 (φ1 := Is (.string (s))) (φ2 := Is (.int .i64 ((k : Nat)))) ent152 (hlc rfl) (hlc rfl) (fun g u1 u2 W hk hgk h1 h2 => by have h1 : u1 = _ := h1; subst u1; have h2 : u2 = _ := h2; subst u2; exact digit_ok (s) k hlt hm W)) ?_
   refine .i (sp_move (hlc rfl)) ?_
   refine .i (v := (.int .i64 (hexV (s[k]'hlt).toNat))) (sp_extT (hlc rfl) rfl) ?_
   refine .i (v := (.bool (hexB (s[k]'hlt).toNat))) (sp_extT (hlc rfl) rfl) ?_
   refine .i (sp_assign (hlc rfl)) ?_
   refine .i (sp_assign (hlc rfl)) ?_
   refine .done ⟨by kernel_rfl, fun a14 g W14 y14 zz14 hk hg hV hR hP => ?_⟩
   obtain ⟨e5, -, -, -, -, -, -, -, -⟩ := hV
   replace e0 := (hR 0 rfl).trans e0
   replace e7 := (hR 7 rfl).trans e7
   replace e8 := (hR 8 rfl).trans e8
   have e5 : sl a14 5 = (.bool (hexB (s[k]'hlt).toNat)) := e5
   replace kw := kw.x hk
   clear hR hk hg hP
   refine tail_nil (hK13 _ _ ?_)
   refine wp_seq_k fun K15 hK15 => ?_
   refine rg mixed y14 zz14 ?_
   refine .i (sp_move (hbs rfl e5)) ?_
   refine .i (sp_not (hlc rfl)) ?_
   refine .done ⟨by kernel_rfl, fun a16 g W16 y16 zz16 hk hg hV hR hP => ?_⟩
   obtain ⟨e18, -, -⟩ := hV
   replace e0 := (hR 0 rfl).trans e0
   replace e7 := (hR 7 rfl).trans e7
   replace e8 := (hR 8 rfl).trans e8
   have e18 : sl a16 18 = (.bool (!(hexB (s[k]'hlt).toNat))) := e18
   replace kw := kw.x hk
   clear hR hk hg hP
   refine tail_nil (hK15 _ _ ?_)
   refine wp_cond_split e18 (fun hc => ?_) (fun hc => ?_)
   ·
    have hfin : hexIs s = false := hexIs_false hlt (by simpa using hc)
    refine wp_seq_k fun K17 hK17 => ?_
    refine rg mixed y16 zz16 ?_
    refine .i (sp_assign Has.cst) ?_
    refine .done ⟨by kernel_rfl, fun a18 g W18 y18 zz18 hk hg hV hR hP => ?_⟩
    obtain ⟨e2, -⟩ := hV
    have e2 : sl a18 2 = (.bool (false)) := e2
    replace kw := kw.x hk
    clear hR hk hg hP
    refine tail_nil (hK17 _ _ ?_)
    refine wp_ret ?_
    refine (show bodyPost Try.prog Try.f135 _ .ret _ _ from ret1 rfl zz18 e2 ⟨_, rfl, kw, ?_⟩)
    rw [hfin]
   ·
    have hk1 : hexB (s[k]'hlt).toNat = true := by simpa using hc
    refine wp_skip (hK10 _ _ ?_)
    refine rg mixed y16 zz16 ?_
    refine .i (sp_add (hbs rfl e8) Has.cst (i64_in (by omega))) ?_
    refine .i (sp_move (hlc rfl)) ?_
    refine .done ⟨by kernel_rfl, fun a19 g W19 y19 zz19 hk hg hV hR hP => ?_⟩
    obtain ⟨e8, -, -⟩ := hV
    replace e0 := (hR 0 rfl).trans e0
    replace e7 := (hR 7 rfl).trans e7
    replace e8 := e8.q
    replace kw := kw.x hk
    clear hR hk hg hP
    exact tail_nil ⟨hlt, y19, zz19, kw, e0, e7, (e8.trans (congrArg (Value.int .i64) (by simp))), fun i h hi => by rcases Nat.lt_succ_iff_lt_or_eq.1 hi with h1 | h1; exact hinv i h h1; subst h1; exact hk1⟩
  ·
   have hge0 : ¬ k < s.size := by simpa using hc
   have hge : k = s.size := by omega
   have hfin : hexIs s = true := (hexIs_iff s).2 fun i h => hinv i h (by omega)
   refine wp_exit (hK3 _ _ ?_)
   refine wp_seq_k fun K20 hK20 => ?_
   refine rg mixed y8 zz8 ?_
   refine .i (sp_assign Has.cst) ?_
   refine .done ⟨by kernel_rfl, fun a21 g W21 y21 zz21 hk hg hV hR hP => ?_⟩
   obtain ⟨e2, -⟩ := hV
   have e2 : sl a21 2 = (.bool (true)) := e2
   replace kw := kw.x hk
   clear hR hk hg hP
   refine tail_nil (hK20 _ _ ?_)
   refine wp_ret ?_
   refine (show bodyPost Try.prog Try.f135 _ .ret _ _ from ret1 rfl zz21 e2 ⟨_, rfl, kw, ?_⟩)
   rw [hfin]
end Go.Proofs.Ytnobijngkpflcaa
namespace Go.Eng
def AB (n : Int) (A : As) : Prop := ∀ s, 0 ≤ mget A s ∧ mget A s ≤ n
theorem AB.nil : AB 0 [] := fun _ => ⟨Int.le_refl _, Int.le_refl _⟩
theorem AB.mono {m n : Int} {A : As} (h : AB m A) (hmn : m ≤ n) : AB n A := fun s => ⟨(h s).1, by have := (h s).2; omega⟩
end Go.Eng
namespace Go.Eng
def PkF (w : World) (bo bm : Nat) : BSet := fun b o => Fr w b o ∧ b ∉ [bo, bm]
def PkAt (w W : World) (T : TypeId) (x : V) (A : As) (e : Int) (u : Value) : Prop :=
  ∃ bo bm cn ci, u = .pointer (some ⟨bo, 0, none⟩) ∧ w.heap.size ≤ bo ∧ w.heap.size ≤ bm ∧ bo ≠ bm ∧ Own W bo [.int .u8 x.k, .int .i64 x.n, .string x.t, cn, ci, .map (some bm), .int .i64 e] T ∧ OwnM W bm A ∧
    Rd W (PkF w bo bm) (strsD x.ns) cn ∧ Rd W (PkF w bo bm) (valsD x.xs) ci ∧ x.t.size ≤ maxLen
theorem PkAt.ext {w W W' : World} {T : TypeId} {x : V} {A : As} {e : Int} {u : Value} (h : PkAt w W T x A e u) (k : Ext W W') : PkAt w W' T x A e u := by
  obtain ⟨bo, bm, cn, ci, h1, h2, h3, h4, h5, h6, h7, h8, h9⟩ := h
  exact ⟨bo, bm, cn, ci, h1, h2, h3, h4, h5.ext k, h6.ext k, h7.ext k, h8.ext k, h9⟩
end Go.Eng
namespace Go.Eng
def allowB (c : Nat) : Bool := (decide (97 ≤ c) && decide (c ≤ 122)) || ((decide (65 ≤ c) && decide (c ≤ 90)) || ((decide (48 ≤ c) && decide (c ≤ 57)) || (decide (c = 46) || (decide (c = 95) || decide (c = 45)))))
def allB (p : Nat → Bool) (s : ByteArray) : Bool := s.data.toList.all fun c => p c.toNat
theorem allB_iff (p : Nat → Bool) (s : ByteArray) : allB p s = true ↔ ∀ i (h : i < s.size), p (s[i]'h).toNat = true := by
  unfold allB
  rw [List.all_eq_true]
  constructor
  · intro h i hi
    exact h _ (by rw [ByteArray.getElem_eq_getElem_data]; simp)
  · intro h c hc
    obtain ⟨i, hi, rfl⟩ := List.getElem_of_mem hc
    have := h i (by simpa using hi)
    rw [ByteArray.getElem_eq_getElem_data] at this
    simpa using this
theorem allB_false {p : Nat → Bool} {s : ByteArray} {i : Nat} (h : i < s.size) (hf : p (s[i]'h).toNat = false) : allB p s = false := by
  cases hq : allB p s with
  | false => rfl
  | true => have := (allB_iff p s).1 hq i h; rw [hf] at this; cases this
def byteAt (s : ByteArray) (i : Nat) : Nat := if h : i < s.size then (s[i]'h).toNat else 0
def roleB (s : ByteArray) : Bool := if s.size = 0 ∨ 64 < s.size ∨ byteAt s 0 = 46 then false else allB allowB s
def digR (s : ByteArray) : Bool := decide (2 ≤ s.size) && (decide (s.size ≤ 128) && (decide (s.size % 2 = 0) && hexIs s))
def hsOk (h : Hs) : Bool := roleB h.al && digR h.hx
def badH (b a : Hs) : Bool := sLt b.al a.al || decide (b.al = a.al)
def ascH : List Hs → Bool
  | a :: b :: r => !badH b a && ascH (b :: r)
  | _ => true
theorem ascH_true : ∀ (L : List Hs), (∀ i (h : i + 1 < L.length), badH L[i + 1] L[i] = false) → ascH L = true
  | [], _ => rfl
  | [a], _ => rfl
  | a :: b :: r, h => by
    have h0 := h 0 (by simp)
    have := ascH_true (b :: r) fun i hi => h (i + 1) (by simpa using hi)
    simp at h0
    simp [ascH, h0, this]
theorem ascH_get : ∀ (L : List Hs), ascH L = true → ∀ i (h : i + 1 < L.length), badH L[i + 1] L[i] = false
  | [], _, i, h => by simp at h
  | [a], _, i, h => by simp at h
  | a :: b :: r, ha, 0, _ => by simp [ascH] at ha; simpa using ha.1
  | a :: b :: r, ha, i + 1, h => by
    simp [ascH] at ha
    exact ascH_get (b :: r) ha.2 i (by simpa using h)
theorem ascH_false (L : List Hs) (i : Nat) (h : i + 1 < L.length) (hb : badH L[i + 1] L[i] = true) : ascH L = false := by
  cases hq : ascH L with
  | false => rfl
  | true => have := ascH_get L hq i h; rw [hb] at this; cases this
def mayH (l : List Hs) : Bool := decide (1 ≤ l.length) && (decide (l.length ≤ 4) && (l.all hsOk && ascH l))
theorem all_false {α : Type} {p : α → Bool} {l : List α} {i : Nat} (h : i < l.length) (hf : p l[i] = false) : l.all p = false := by
  cases hq : l.all p with
  | false => rfl
  | true => have := List.all_eq_true.1 hq l[i] (List.getElem_mem _); rw [hf] at this; cases this
theorem all_true {α : Type} {p : α → Bool} {l : List α} (hf : ∀ i (h : i < l.length), p l[i] = true) : l.all p = true := by
  rw [List.all_eq_true]
  intro x hx
  obtain ⟨i, hi, rfl⟩ := List.getElem_of_mem hx
  exact hf i hi
def hsEq (a b : Hs) : Bool := decide (a.al = b.al) && decide (a.hx = b.hx)
theorem hsEq_iff (a b : Hs) : hsEq a b = true ↔ a = b := by cases a; cases b; simp [hsEq]
def sameH : List Hs → List Hs → Bool
  | [], [] => true
  | a :: la, b :: bs => hsEq a b && sameH la bs
  | _, _ => false
theorem sameH_iff : ∀ (a b : List Hs), sameH a b = true ↔ a = b
  | [], [] => by simp [sameH]
  | a :: la, [] => by simp [sameH]
  | [], b :: bs => by simp [sameH]
  | a :: la, b :: bs => by simp [sameH, hsEq_iff, sameH_iff la bs]
theorem sameH_false {a b : List Hs} (h : a ≠ b) : sameH a b = false := by
  cases hq : sameH a b with
  | false => rfl
  | true => exact absurd ((sameH_iff a b).1 hq) h
def noneB (x : V) : Bool := decide (x.k = 0) && (decide (x.n = 0) && (decide (x.t = ⟨#[]⟩) && (decide (x.ns.length = 0) && decide (x.xs.length = 0))))
def sHashes : ByteArray := ⟨#[104, 97, 115, 104, 101, 115]⟩
def sLength : ByteArray := ⟨#[108, 101, 110, 103, 116, 104]⟩
def sCustom : ByteArray := ⟨#[99, 117, 115, 116, 111, 109]⟩
def numVv (n : Int) : V := V.mk 2 n ⟨#[]⟩ [] []
def hsM (h : Hs) : Mb := ⟨h.al, V.mk 3 0 h.hx [] []⟩
def hshO (l : List Hs) : V := objM (l.map hsM)
def recL (r : Rc) : List Mb := if noneB r.cu then [⟨sHashes, hshO r.hs⟩, ⟨sLength, numVv r.ln⟩] else [⟨sHashes, hshO r.hs⟩, ⟨sLength, numVv r.ln⟩, ⟨sCustom, r.cu⟩]
def recO (r : Rc) : V := objM (recL r)
def mayR (r : Rc) : Bool := if r.ln < 0 ∨ 1099511627776 < r.ln ∨ mayH r.hs = false then false else if noneB r.cu = false ∧ mayB r.cu = false then false else mayB (recO r)
def sameR (a b : Rc) : Bool := decide (a.ln = b.ln) && (sameH a.hs b.hs && V.beq a.cu b.cu)
end Go.Eng
namespace Go.Eng
section
variable {P : Program} {ops : Array Oper} {S : Nat → Prop} {w0 : World} {a0 : Act} {Γ : Ctx}
variable {d : Option Tmp} {ty : TypeId} {pos : String} {af : Array Edge} {gd : Option (Nat × Bool)}
def HsEqAt (P : Program) (T : TypeId) : Prop := P.eqGuardType P.depth T = false ∧ ∀ (a b c e : ByteArray) (W : World), (Op.equalIn 10000 T (.agg #[.string a, .string b]) (.agg #[.string c, .string e])).run P W = .ok (decide (a = c) && decide (b = e)) W
theorem sp_hsNeq {x y : Operand} {T T' : TypeId} {a b : Hs} {X Y : BSet} (hq : HsEqAt P T) (hx : Has S w0 a0 Γ x (IsD X a.d)) (hy : Has S w0 a0 Γ y (IsD Y b.d)) :
    Spec P ops S w0 a0 Γ ⟨d, .binOp .neq T x y T', ty, pos, af, gd⟩ (Is (.bool (!hsEq a b))) := sp_val fun p g W hk hg he => by
  have e1 := (rdHs_out (hx.of_env hk hg he (by simp [Op.operands]))).1
  have e2 := (rdHs_out (hy.of_env hk hg he (by simp [Op.operands]))).1
  simp only [execOp, e1, e2, Sem.run_bind, run_eqGuard_agg W _ _ _ _ _ _ hq.1, Result.andThen_ok, run_neq_struct, hq.2]
  rfl
theorem sp_hsEql {x y : Operand} {T T' : TypeId} {a b : Hs} {X Y : BSet} (hq : HsEqAt P T) (hx : Has S w0 a0 Γ x (IsD X a.d)) (hy : Has S w0 a0 Γ y (IsD Y b.d)) :
    Spec P ops S w0 a0 Γ ⟨d, .binOp .eql T x y T', ty, pos, af, gd⟩ (Is (.bool (hsEq a b))) := sp_val fun p g W hk hg he => by
  have e1 := (rdHs_out (hx.of_env hk hg he (by simp [Op.operands]))).1
  have e2 := (rdHs_out (hy.of_env hk hg he (by simp [Op.operands]))).1
  simp only [execOp, e1, e2, Sem.run_bind, run_eqGuard_agg W _ _ _ _ _ _ hq.1, Result.andThen_ok, run_eql_struct, hq.2]
  rfl
end
theorem rdHss_len {W : World} {X : BSet} {l : List Hs} {v : Value} (h : Rd W X (hssD l) v) : l.length ≤ maxLen := by
  obtain ⟨cs, h1, _⟩ := h
  simp only [hssD, RdC] at h1
  obtain ⟨a, cap, _, h2, h3, _⟩ := h1
  simp at h2; omega
theorem rdl_at {W : World} {X : BSet} {b sz : Nat} : ∀ (ds : List D) (o i : Nat) (hi : i < ds.length), RdL W X b sz ds o → ∃ cs, RdC W X ds[i] cs
  | [], _, i, hi, _ => by simp at hi
  | d :: ds, o, 0, _, h => by simp only [RdL] at h; obtain ⟨⟨cs, _, _, h2⟩, _⟩ := h; exact ⟨cs, h2⟩
  | d :: ds, o, i + 1, hi, h => by simp only [RdL] at h; exact rdl_at ds _ i (by simpa using hi) h.2
theorem rdHss_at {W : World} {X : BSet} {l : List Hs} {v : Value} {i : Nat} (h : Rd W X (hssD l) v) (hi : i < l.length) : l[i].al.size ≤ maxLen ∧ l[i].hx.size ≤ maxLen := by
  obtain ⟨cs, h1, _⟩ := h
  simp only [hssD, RdC] at h1
  obtain ⟨a, cap, _, h2, h3, h4⟩ := h1
  rcases h4 with h4 | ⟨b, o, _, _, _, h5⟩
  · simp at h4; subst h4; simp at hi
  · obtain ⟨c, hc⟩ := rdl_at _ _ i (by simpa using hi) h5
    rw [List.getElem_map] at hc
    exact (rdHs_out ⟨c, hc, rfl⟩).2
theorem byteAt_pos {s : ByteArray} {i : Nat} (h : i < s.size) : byteAt s i = (s[i]'h).toNat := by rw [byteAt, dif_pos h]
section
variable {P : Program} {ops : Array Oper} {S : Nat → Prop} {w0 : World} {a0 : Act} {Γ : Ctx}
variable {d : Option Tmp} {ty : TypeId} {pos : String} {af : Array Edge} {gd : Option (Nat × Bool)}
theorem sp_indexStrB {x y : Operand} {T : TypeId} {s : ByteArray} {k : IntKind} {j : Int} {i : Nat} (hT : P.underlying T = some .string) (hx : Has S w0 a0 Γ x (Is (.string s))) (hy : Has S w0 a0 Γ y (Is (.int k j))) (hj : j = i) (hi : i < s.size) :
    Spec P ops S w0 a0 Γ ⟨d, .index T x y, ty, pos, af, gd⟩ (Is (.int .u8 (byteAt s i : Nat))) := by rw [byteAt_pos hi]; exact sp_indexStrK hT hx hy hj hi
end
end Go.Eng
namespace Go.Proofs.Ytnobijngkpflcaa
open Go.Eng
theorem bytes_eq (x y : ByteArray) : x.toList = y.toList ↔ x = y := ⟨fun h => by rw [ByteArray.toList_eq, ByteArray.toList_eq] at h; obtain ⟨⟨_⟩⟩ := x; obtain ⟨⟨_⟩⟩ := y; simpa using h, fun h => h ▸ rfl⟩
theorem eqHs : HsEqAt Try.prog 114 := by
  refine ⟨by kernel_rfl, fun a b c e w => ?_⟩
  have u9 := Try.underlying9
  have a9 := Try.isAgg9
  have z9 := Try.sizeOf9
  have hS : Try.prog.underlying 114 = some (.struct (Try.prog.fieldsOf 114)) := by kernel_rfl
  have hp : Try.prog.stoodInHeld 114 = false := by kernel_rfl
  rw [show (10000 : Nat) = 9999 + 1 from rfl, run_equalIn_agg w 9999 114 _ _ hS hp]
  simp only [Program.fieldsOf, Try.underlying114]
  go_simp
  by_cases h1 : a = c <;> by_cases h2 : b = e <;> simp [h1, h2, bytes_eq]
set_option maxRecDepth 100000 in
theorem allowed_ok (c : Nat) (w : World) : Calls Try.prog 146 #[.int .u8 c] w (Ret w fun u _ => u = .bool (allowB c)) := by
  refine enter Try.func146 rfl Try.ntmps146 (lbr rfl) fun a0 y0 zz0 harg => ?_
  have e0 : sl a0 0 = (.int .u8 ((c : Nat))) := harg 0 (lbr rfl)
  have kw := Keeps.refl All w
  clear harg
  refine wp_seq_k fun K1 hK1 => ?_
  refine rg mixed y0 zz0 ?_
  refine .i (sp_assign Has.cst) ?_
  refine .done ⟨by kernel_rfl, fun a2 g W2 y2 zz2 hk hg hV hR hP => ?_⟩
  obtain ⟨-, -⟩ := hV
  replace e0 := (hR 0 rfl).trans e0
  replace kw := kw.x hk
  clear hR hk hg hP
  refine tail_nil (hK1 _ _ ?_)
  refine wp_seq_k fun K3 hK3 => ?_
  refine wp_block ?_
  refine wp_seq_k fun K4 hK4 => ?_
  refine wp_seq_k fun K5 hK5 => ?_
  refine rg mixed y2 zz2 ?_
  refine .i (sp_move (hbs rfl e0)) ?_
  refine .i (sp_geq (hlc rfl) Has.cst) ?_
  refine .i (sp_move (hlc rfl)) ?_
  refine .e (t := 6) rfl (hlc rfl) (fun hg => sp_move (hbs rfl e0)) ?_
  refine .e (t := 6) rfl (hlc rfl) (fun hg => sp_leq ((hlc rfl).undE hg) Has.cst) ?_
  refine .i (sp_and (hlc rfl) ((hlc rfl).weak fun hq => hq)) ?_
  refine .i (sp_assign (hlc rfl)) ?_
  refine .done ⟨by kernel_rfl, fun a6 g W6 y6 zz6 hk hg hV hR hP => ?_⟩
  obtain ⟨e3, -, -, -, -, -, -, -⟩ := hV
  replace e0 := (hR 0 rfl).trans e0
  replace e3 := e3.q
  replace kw := kw.x hk
  clear hR hk hg hP
  refine tail_nil (hK5 _ _ ?_)
  refine wp_cond_split e3 (fun hc => ?_) (fun hc => ?_)
  ·
   simp at hc
   refine wp_skip (hK4 _ _ ?_)
   refine wp_cond_split e3 (fun hc => ?_) (fun hc => ?_)
   ·
    simp at hc
    refine wp_seq_k fun K7 hK7 => ?_
    refine rg mixed y6 zz6 ?_
    refine .i (sp_assign Has.cst) ?_
    refine .done ⟨by kernel_rfl, fun a8 g W8 y8 zz8 hk hg hV hR hP => ?_⟩
    obtain ⟨e2, -⟩ := hV
    have e2 : sl a8 2 = (.bool (true)) := e2
    replace kw := kw.x hk
    clear hR hk hg hP
    refine tail_nil (hK7 _ _ ?_)
    refine wp_ret ?_
    refine (show bodyPost Try.prog Try.f146 _ .ret _ _ from ret1 rfl zz8 e2 ⟨_, rfl, kw, ?_⟩)
    refine congrArg Value.bool ?_
    rw [Bool.eq_iff_iff]
    simp [allowB]
    try omega
   ·
    simp at hc
    refine wp_skip (hK3 _ _ ?_)
    refine wp_seq_k fun K9 hK9 => ?_
    refine rg mixed y6 zz6 ?_
    refine .i (sp_move (hbs rfl e0)) ?_
    refine .i (sp_eql (hlc rfl) Has.cst) ?_
    refine .i (sp_move (hlc rfl)) ?_
    refine .e (t := 24) rfl (hlc rfl) (fun hg => sp_move (hbs rfl e0)) ?_
    refine .e (t := 24) rfl (hlc rfl) (fun hg => sp_eql ((hlc rfl).undE hg) Has.cst) ?_
    refine .i (sp_or (hlc rfl) ((hlc rfl).weak fun hq => hq)) ?_
    refine .i (sp_move (hlc rfl)) ?_
    refine .e (t := 28) rfl (hlc rfl) (fun hg => sp_move (hbs rfl e0)) ?_
    refine .e (t := 28) rfl (hlc rfl) (fun hg => sp_eql ((hlc rfl).undE hg) Has.cst) ?_
    refine .i (sp_or (hlc rfl) ((hlc rfl).weak fun hq => hq)) ?_
    refine .i (sp_assign (hlc rfl)) ?_
    refine .done ⟨by kernel_rfl, fun a10 g W10 y10 zz10 hk hg hV hR hP => ?_⟩
    obtain ⟨e2, -, -, -, -, -, -, -, -, -, -, -⟩ := hV
    replace e2 := e2.q
    replace kw := kw.x hk
    clear hR hk hg hP
    refine tail_nil (hK9 _ _ ?_)
    refine wp_ret ?_
    refine (show bodyPost Try.prog Try.f146 _ .ret _ _ from ret1 rfl zz10 e2 ⟨_, rfl, kw, ?_⟩)
    refine congrArg Value.bool ?_
    rw [Bool.eq_iff_iff]
    simp [allowB]
    try omega
  ·
   simp at hc
   refine wp_seq_k fun K11 hK11 => ?_
   refine rg mixed y6 zz6 ?_
   refine .i (sp_move (hbs rfl e0)) ?_
   refine .i (sp_geq (hlc rfl) Has.cst) ?_
   refine .i (sp_move (hlc rfl)) ?_
   refine .e (t := 12) rfl (hlc rfl) (fun hg => sp_move (hbs rfl e0)) ?_
   refine .e (t := 12) rfl (hlc rfl) (fun hg => sp_leq ((hlc rfl).undE hg) Has.cst) ?_
   refine .i (sp_and (hlc rfl) ((hlc rfl).weak fun hq => hq)) ?_
   refine .i (sp_assign (hlc rfl)) ?_
   refine .done ⟨by kernel_rfl, fun a12 g W12 y12 zz12 hk hg hV hR hP => ?_⟩
   obtain ⟨e3, -, -, -, -, -, -, -⟩ := hV
   replace e0 := (hR 0 rfl).trans e0
   replace e3 := e3.q
   replace kw := kw.x hk
   clear hR hk hg hP
   refine tail_nil (hK11 _ _ ?_)
   refine wp_cond_split e3 (fun hc => ?_) (fun hc => ?_)
   ·
    simp at hc
    refine wp_skip (hK4 _ _ ?_)
    refine wp_cond_split e3 (fun hc => ?_) (fun hc => ?_)
    ·
     simp at hc
     refine wp_seq_k fun K13 hK13 => ?_
     refine rg mixed y12 zz12 ?_
     refine .i (sp_assign Has.cst) ?_
     refine .done ⟨by kernel_rfl, fun a14 g W14 y14 zz14 hk hg hV hR hP => ?_⟩
     obtain ⟨e2, -⟩ := hV
     have e2 : sl a14 2 = (.bool (true)) := e2
     replace kw := kw.x hk
     clear hR hk hg hP
     refine tail_nil (hK13 _ _ ?_)
     refine wp_ret ?_
     refine (show bodyPost Try.prog Try.f146 _ .ret _ _ from ret1 rfl zz14 e2 ⟨_, rfl, kw, ?_⟩)
     refine congrArg Value.bool ?_
     rw [Bool.eq_iff_iff]
     simp [allowB]
     try omega
    ·
     simp at hc
     refine wp_skip (hK3 _ _ ?_)
     refine wp_seq_k fun K15 hK15 => ?_
     refine rg mixed y12 zz12 ?_
     refine .i (sp_move (hbs rfl e0)) ?_
     refine .i (sp_eql (hlc rfl) Has.cst) ?_
     refine .i (sp_move (hlc rfl)) ?_
     refine .e (t := 24) rfl (hlc rfl) (fun hg => sp_move (hbs rfl e0)) ?_
     refine .e (t := 24) rfl (hlc rfl) (fun hg => sp_eql ((hlc rfl).undE hg) Has.cst) ?_
     refine .i (sp_or (hlc rfl) ((hlc rfl).weak fun hq => hq)) ?_
     refine .i (sp_move (hlc rfl)) ?_
     refine .e (t := 28) rfl (hlc rfl) (fun hg => sp_move (hbs rfl e0)) ?_
     refine .e (t := 28) rfl (hlc rfl) (fun hg => sp_eql ((hlc rfl).undE hg) Has.cst) ?_
     refine .i (sp_or (hlc rfl) ((hlc rfl).weak fun hq => hq)) ?_
     refine .i (sp_assign (hlc rfl)) ?_
     refine .done ⟨by kernel_rfl, fun a16 g W16 y16 zz16 hk hg hV hR hP => ?_⟩
     obtain ⟨e2, -, -, -, -, -, -, -, -, -, -, -⟩ := hV
     replace e2 := e2.q
     replace kw := kw.x hk
     clear hR hk hg hP
     refine tail_nil (hK15 _ _ ?_)
     refine wp_ret ?_
     refine (show bodyPost Try.prog Try.f146 _ .ret _ _ from ret1 rfl zz16 e2 ⟨_, rfl, kw, ?_⟩)
     refine congrArg Value.bool ?_
     rw [Bool.eq_iff_iff]
     simp [allowB]
     try omega
   ·
    simp at hc
    refine rg mixed y12 zz12 ?_
    refine .i (sp_move (hbs rfl e0)) ?_
    refine .i (sp_geq (hlc rfl) Has.cst) ?_
    refine .i (sp_move (hlc rfl)) ?_
    refine .e (t := 18) rfl (hlc rfl) (fun hg => sp_move (hbs rfl e0)) ?_
    refine .e (t := 18) rfl (hlc rfl) (fun hg => sp_leq ((hlc rfl).undE hg) Has.cst) ?_
    refine .i (sp_and (hlc rfl) ((hlc rfl).weak fun hq => hq)) ?_
    refine .i (sp_assign (hlc rfl)) ?_
    refine .done ⟨by kernel_rfl, fun a17 g W17 y17 zz17 hk hg hV hR hP => ?_⟩
    obtain ⟨e3, -, -, -, -, -, -, -⟩ := hV
    replace e0 := (hR 0 rfl).trans e0
    replace e3 := e3.q
    replace kw := kw.x hk
    clear hR hk hg hP
    refine tail_nil (hK4 _ _ ?_)
    refine wp_cond_split e3 (fun hc => ?_) (fun hc => ?_)
    ·
     simp at hc
     refine wp_seq_k fun K18 hK18 => ?_
     refine rg mixed y17 zz17 ?_
     refine .i (sp_assign Has.cst) ?_
     refine .done ⟨by kernel_rfl, fun a19 g W19 y19 zz19 hk hg hV hR hP => ?_⟩
     obtain ⟨e2, -⟩ := hV
     have e2 : sl a19 2 = (.bool (true)) := e2
     replace kw := kw.x hk
     clear hR hk hg hP
     refine tail_nil (hK18 _ _ ?_)
     refine wp_ret ?_
     refine (show bodyPost Try.prog Try.f146 _ .ret _ _ from ret1 rfl zz19 e2 ⟨_, rfl, kw, ?_⟩)
     refine congrArg Value.bool ?_
     rw [Bool.eq_iff_iff]
     simp [allowB]
     try omega
    ·
     simp at hc
     refine wp_skip (hK3 _ _ ?_)
     refine wp_seq_k fun K20 hK20 => ?_
     refine rg mixed y17 zz17 ?_
     refine .i (sp_move (hbs rfl e0)) ?_
     refine .i (sp_eql (hlc rfl) Has.cst) ?_
     refine .i (sp_move (hlc rfl)) ?_
     refine .e (t := 24) rfl (hlc rfl) (fun hg => sp_move (hbs rfl e0)) ?_
     refine .e (t := 24) rfl (hlc rfl) (fun hg => sp_eql ((hlc rfl).undE hg) Has.cst) ?_
     refine .i (sp_or (hlc rfl) ((hlc rfl).weak fun hq => hq)) ?_
     refine .i (sp_move (hlc rfl)) ?_
     refine .e (t := 28) rfl (hlc rfl) (fun hg => sp_move (hbs rfl e0)) ?_
     refine .e (t := 28) rfl (hlc rfl) (fun hg => sp_eql ((hlc rfl).undE hg) Has.cst) ?_
     refine .i (sp_or (hlc rfl) ((hlc rfl).weak fun hq => hq)) ?_
     refine .i (sp_assign (hlc rfl)) ?_
     refine .done ⟨by kernel_rfl, fun a21 g W21 y21 zz21 hk hg hV hR hP => ?_⟩
     obtain ⟨e2, -, -, -, -, -, -, -, -, -, -, -⟩ := hV
     replace e2 := e2.q
     replace kw := kw.x hk
     clear hR hk hg hP
     refine tail_nil (hK20 _ _ ?_)
     refine wp_ret ?_
     refine (show bodyPost Try.prog Try.f146 _ .ret _ _ from ret1 rfl zz21 e2 ⟨_, rfl, kw, ?_⟩)
     refine congrArg Value.bool ?_
     rw [Bool.eq_iff_iff]
     simp [allowB]
     try omega
set_option maxRecDepth 100000 in
theorem Role_ok (s : ByteArray) (hm : s.size ≤ maxLen) (w : World) : Calls Try.prog 116 #[.string s] w (Ret w fun u _ => u = .bool (roleB s)) := by
  have hmx := hm
  simp only [maxLen] at hmx
  have hse : s = (⟨#[]⟩ : ByteArray) ↔ s.size = 0 := ⟨fun h => by rw [h]; rfl, fun h => by obtain ⟨d⟩ := s; simp [ByteArray.size] at h; rw [h]⟩
  refine enter Try.func116 rfl Try.ntmps116 (lbr rfl) fun a0 y0 zz0 harg => ?_
  have e0 : sl a0 0 = (.string (s)) := harg 0 (lbr rfl)
  have kw := Keeps.refl All w
  clear harg
  refine wp_seq_k fun K1 hK1 => ?_
  refine rg mixed y0 zz0 ?_
  refine .i (sp_assign Has.cst) ?_
  refine .done ⟨by kernel_rfl, fun a2 g W2 y2 zz2 hk hg hV hR hP => ?_⟩
  obtain ⟨-, -⟩ := hV
  replace e0 := (hR 0 rfl).trans e0
  replace kw := kw.x hk
  clear hR hk hg hP
  refine tail_nil (hK1 _ _ ?_)
  refine wp_seq_k fun K3 hK3 => ?_
  refine wp_seq_k fun K4 hK4 => ?_
  refine rg mixed y2 zz2 ?_
  refine .i (sp_move (hbs rfl e0)) ?_
  refine .i (sp_sEql (hlc rfl) Has.cst) ?_
  refine .i (sp_move (hlc rfl)) ?_
  refine .e (t := 6) rfl (hlc rfl) (fun hg => sp_move (hbs rfl e0)) ?_
  refine .e (t := 6) rfl (hlc rfl) (fun hg => sp_lenS Try.underlying9 ((hlc rfl).undE hg)) ?_
  refine .e (t := 6) rfl (hlc rfl) (fun hg => sp_gtr ((hlc rfl).undE hg) Has.cst) ?_
  refine .i (sp_or (hlc rfl) ((hlc rfl).weak fun hq => hq)) ?_
  refine .i (sp_move (hlc rfl)) ?_
  refine .e (t := 11) rfl (hlc rfl) (fun hg => sp_move (hbs rfl e0)) ?_
  refine .e (t := 11) (v := (.int .u8 ((byteAt s 0 : Nat)))) rfl (hlc rfl) (fun hg => sp_indexStrB (i := 0) Try.underlying9 ((hlc rfl).undE hg) Has.cst rfl (Nat.pos_of_ne_zero fun h => of_decide_eq_false (Bool.or_eq_false_iff.1 hg).1 (hse.2 h))) ?_
  refine .e (t := 11) rfl (hlc rfl) (fun hg => sp_eql ((hlc rfl).undE hg) Has.cst) ?_
  refine .i (sp_or (hlc rfl) ((hlc rfl).weak fun hq => hq)) ?_
  refine .done ⟨by kernel_rfl, fun a5 g W5 y5 zz5 hk hg hV hR hP => ?_⟩
  obtain ⟨e15, -, -, -, -, -, -, -, -, -, -, -, -⟩ := hV
  replace e0 := (hR 0 rfl).trans e0
  replace e15 := e15.q
  replace kw := kw.x hk
  clear hR hk hg hP
  refine tail_nil (hK4 _ _ ?_)
  refine wp_cond_split e15 (fun hc => ?_) (fun hc => ?_)
  ·
   have hfin : roleB s = false := by rw [roleB, if_pos]; simp only [Bool.or_eq_true, decide_eq_true_eq, beq_iff_eq] at hc; rcases hc with (h | h) | h; exact .inl (hse.1 h); exact .inr (.inl (by omega)); exact .inr (.inr (by omega))
   refine wp_seq_k fun K6 hK6 => ?_
   refine rg mixed y5 zz5 ?_
   refine .i (sp_assign Has.cst) ?_
   refine .done ⟨by kernel_rfl, fun a7 g W7 y7 zz7 hk hg hV hR hP => ?_⟩
   obtain ⟨e2, -⟩ := hV
   have e2 : sl a7 2 = (.bool (false)) := e2
   replace kw := kw.x hk
   clear hR hk hg hP
   refine tail_nil (hK6 _ _ ?_)
   refine wp_ret ?_
   refine (show bodyPost Try.prog Try.f116 _ .ret _ _ from ret1 rfl zz7 e2 ⟨_, rfl, kw, ?_⟩)
   rw [hfin]
  ·
   have hno : ¬ (s.size = 0 ∨ 64 < s.size ∨ byteAt s 0 = 46) := by simp only [Bool.or_eq_false_iff, decide_eq_false_iff_not, beq_eq_false_iff_ne, ne_eq] at hc; obtain ⟨⟨h1, h2⟩, h3⟩ := hc; rintro (h | h | h); exact h1 (hse.2 h); omega; omega
   have hfa : roleB s = allB allowB s := by rw [roleB, if_neg hno]
   refine wp_skip (hK3 _ _ ?_)
   refine wp_seq_k fun K8 hK8 => ?_
   refine wp_seq_k fun K9 hK9 => ?_
   refine rg mixed y5 zz5 ?_
   refine .i (sp_move (hbs rfl e0)) ?_
   refine .i (sp_lenS Try.underlying9 (hlc rfl)) ?_
   refine .i (sp_move Has.cst) ?_
   refine .done ⟨by kernel_rfl, fun a10 g W10 y10 zz10 hk hg hV hR hP => ?_⟩
   obtain ⟨e18, e17, -, -⟩ := hV
   replace e0 := (hR 0 rfl).trans e0
   have e17 : sl a10 17 = (.int .i64 (s.size)) := e17
   have e18 : sl a10 18 = (.int .i64 (0)) := e18
   replace kw := kw.x hk
   clear hR hk hg hP
   refine tail_nil (hK9 _ _ ?_)
   refine wp_block ?_
   refine wp_for (s.size) (fun k a W => a.tmps.size = 27 ∧ a.defers = [] ∧ Keeps All w W ∧ sl a 0 = (.string (s)) ∧ sl a 17 = (.int .i64 (s.size)) ∧ sl a 18 = (.int .i64 ((k : Nat))) ∧ (∀ i (h : i < s.size), i < k → allowB (s[i]'h).toNat = true)) ⟨y10, zz10, kw, e0, e17, (e18.trans (congrArg (Value.int .i64) (rfl))), fun i h hi => absurd hi (by omega)⟩ ?_
   clear kw e0 e17 e18
   rintro k a11 W11 hkk ⟨y11, zz11, kw, e0, e17, e18, hinv⟩
   refine wp_seq_k fun K12 hK12 => ?_
   refine rg mixed y11 zz11 ?_
   refine .i (sp_lss (hbs rfl e18) (hbs rfl e17)) ?_
   refine .done ⟨by kernel_rfl, fun a13 g W13 y13 zz13 hk hg hV hR hP => ?_⟩
   obtain ⟨e19, -⟩ := hV
   replace e0 := (hR 0 rfl).trans e0
   replace e17 := (hR 17 rfl).trans e17
   replace e18 := (hR 18 rfl).trans e18
   replace e19 := e19.q
   replace kw := kw.x hk
   clear hR hk hg hP
   refine tail_nil (hK12 _ _ ?_)
   refine wp_seq_k fun K14 hK14 => ?_
   refine wp_cond_split e19 (fun hc => ?_) (fun hc => ?_)
   ·
    have hlt : k < s.size := by simpa using hc
    refine wp_skip (hK14 _ _ ?_)
    refine wp_seq_k fun K15 hK15 => ?_
    refine wp_block ?_
    refine wp_seq_k fun K16 hK16 => ?_
    refine rg mixed y13 zz13 ?_
    refine .i (sp_move (hbs rfl e18)) ?_
    refine .i (sp_assign (hlc rfl)) ?_
    refine .done ⟨by kernel_rfl, fun a17 g W17 y17 zz17 hk hg hV hR hP => ?_⟩
    obtain ⟨e3, -, -⟩ := hV
    replace e0 := (hR 0 rfl).trans e0
    replace e17 := (hR 17 rfl).trans e17
    replace e18 := (hR 18 rfl).trans e18
    have e3 : sl a17 3 = (.int .i64 ((k : Nat))) := e3
    replace kw := kw.x hk
    clear hR hk hg hP
    refine tail_nil (hK16 _ _ ?_)
    refine wp_seq_k fun K18 hK18 => ?_
    refine rg mixed y17 zz17 ?_
    refine .i (sp_move (hbs rfl e0)) ?_
    refine .i (sp_move (hbs rfl e3)) ?_
    refine .i (v := (.int .u8 (((s[k]'hlt).toNat : Nat)))) (sp_indexStr (i := k) Try.underlying9 (hlc rfl) (hlc rfl) rfl hlt) ?_
    refine .i (v := (.bool (allowB ((s[k]'hlt).toNat)))) (sp_call1 (φ1 := Is (.int .u8 (((s[k]'hlt).toNat : Nat)))) ent146 (hlc rfl) (fun g u1 W hk hgk h1 => by have h1 : u1 = _ := h1; subst u1; exact allowed_ok _ W)) ?_
    refine .i (sp_not (hlc rfl)) ?_
    refine .done ⟨by kernel_rfl, fun a19 g W19 y19 zz19 hk hg hV hR hP => ?_⟩
    obtain ⟨e25, -, -, -, -, -⟩ := hV
    replace e0 := (hR 0 rfl).trans e0
    replace e17 := (hR 17 rfl).trans e17
    replace e18 := (hR 18 rfl).trans e18
    have e25 : sl a19 25 = (.bool (!(allowB ((s[k]'hlt).toNat)))) := e25
    replace kw := kw.x hk
    clear hR hk hg hP
    refine tail_nil (hK18 _ _ ?_)
    refine wp_cond_split e25 (fun hc => ?_) (fun hc => ?_)
    ·
     have hfin : roleB s = false := by rw [hfa]; exact allB_false hlt (by simpa using hc)
     refine wp_seq_k fun K20 hK20 => ?_
     refine rg mixed y19 zz19 ?_
     refine .i (sp_assign Has.cst) ?_
     refine .done ⟨by kernel_rfl, fun a21 g W21 y21 zz21 hk hg hV hR hP => ?_⟩
     obtain ⟨e2, -⟩ := hV
     have e2 : sl a21 2 = (.bool (false)) := e2
     replace kw := kw.x hk
     clear hR hk hg hP
     refine tail_nil (hK20 _ _ ?_)
     refine wp_ret ?_
     refine (show bodyPost Try.prog Try.f116 _ .ret _ _ from ret1 rfl zz21 e2 ⟨_, rfl, kw, ?_⟩)
     rw [hfin]
    ·
     have hk1 : allowB (s[k]'hlt).toNat = true := by simpa using hc
     refine wp_skip (hK15 _ _ ?_)
     refine rg mixed y19 zz19 ?_
     refine .i (sp_add (hbs rfl e18) Has.cst (i64_in (by omega))) ?_
     refine .i (sp_move (hlc rfl)) ?_
     refine .done ⟨by kernel_rfl, fun a22 g W22 y22 zz22 hk hg hV hR hP => ?_⟩
     obtain ⟨e18, -, -⟩ := hV
     replace e0 := (hR 0 rfl).trans e0
     replace e17 := (hR 17 rfl).trans e17
     replace e18 := e18.q
     replace kw := kw.x hk
     clear hR hk hg hP
     exact tail_nil ⟨hlt, y22, zz22, kw, e0, e17, (e18.trans (congrArg (Value.int .i64) (by simp))), fun i h hi => by rcases Nat.lt_succ_iff_lt_or_eq.1 hi with h1 | h1; exact hinv i h h1; subst h1; exact hk1⟩
   ·
    have hge0 : ¬ k < s.size := by simpa using hc
    have hge : k = s.size := by omega
    have hfin : roleB s = true := by rw [hfa]; exact (allB_iff _ _).2 fun i h => hinv i h (by omega)
    refine wp_exit (hK8 _ _ ?_)
    refine wp_seq_k fun K23 hK23 => ?_
    refine rg mixed y13 zz13 ?_
    refine .i (sp_assign Has.cst) ?_
    refine .done ⟨by kernel_rfl, fun a24 g W24 y24 zz24 hk hg hV hR hP => ?_⟩
    obtain ⟨e2, -⟩ := hV
    have e2 : sl a24 2 = (.bool (true)) := e2
    replace kw := kw.x hk
    clear hR hk hg hP
    refine tail_nil (hK23 _ _ ?_)
    refine wp_ret ?_
    refine (show bodyPost Try.prog Try.f116 _ .ret _ _ from ret1 rfl zz24 e2 ⟨_, rfl, kw, ?_⟩)
    rw [hfin]
set_option maxRecDepth 100000 in
theorem digR_ok (s : ByteArray) (hm : s.size ≤ maxLen) (w : World) : Calls Try.prog 130 #[.string s] w (Ret w fun u _ => u = .bool (digR s)) := by
  refine enter Try.func130 rfl Try.ntmps130 (lbr rfl) fun a0 y0 zz0 harg => ?_
  have e0 : sl a0 0 = (.string (s)) := harg 0 (lbr rfl)
  have kw := Keeps.refl All w
  clear harg
  refine wp_seq_k fun K1 hK1 => ?_
  refine rg mixed y0 zz0 ?_
  refine .i (sp_assign Has.cst) ?_
  refine .done ⟨by kernel_rfl, fun a2 g W2 y2 zz2 hk hg hV hR hP => ?_⟩
  obtain ⟨-, -⟩ := hV
  replace e0 := (hR 0 rfl).trans e0
  replace kw := kw.x hk
  clear hR hk hg hP
  refine tail_nil (hK1 _ _ ?_)
  refine wp_seq_k fun K3 hK3 => ?_
  refine rg mixed y2 zz2 ?_
  refine .i (sp_move (hbs rfl e0)) ?_
  refine .i (sp_lenS Try.underlying9 (hlc rfl)) ?_
  refine .i (sp_geq (hlc rfl) Has.cst) ?_
  refine .i (sp_move (hlc rfl)) ?_
  refine .e (t := 6) rfl (hlc rfl) (fun hg => sp_move (hbs rfl e0)) ?_
  refine .e (t := 6) rfl (hlc rfl) (fun hg => sp_lenS Try.underlying9 ((hlc rfl).undE hg)) ?_
  refine .e (t := 6) rfl (hlc rfl) (fun hg => sp_leq ((hlc rfl).undE hg) Has.cst) ?_
  refine .i (sp_and (hlc rfl) ((hlc rfl).weak fun hq => hq)) ?_
  refine .i (sp_move (hlc rfl)) ?_
  refine .e (t := 11) rfl (hlc rfl) (fun hg => sp_move (hbs rfl e0)) ?_
  refine .e (t := 11) rfl (hlc rfl) (fun hg => sp_lenS Try.underlying9 ((hlc rfl).undE hg)) ?_
  refine .e (t := 11) (v := (.int .i64 (Int.tmod s.size 2))) rfl (hlc rfl) (fun hg => sp_rem ((hlc rfl).undE hg) Has.cst (by decide)) ?_
  refine .e (t := 11) rfl (hlc rfl) (fun hg => sp_eql ((hlc rfl).undE hg) Has.cst) ?_
  refine .i (sp_and (hlc rfl) ((hlc rfl).weak fun hq => hq)) ?_
  refine .i (sp_move (hlc rfl)) ?_
  refine .e (t := 17) rfl (hlc rfl) (fun hg => sp_move (hbs rfl e0)) ?_
  refine .e (t := 17) (v := (.bool (hexIs s))) rfl (hlc rfl) (fun hg => sp_call1 (φ1 := Is (.string (s))) ent135 ((hlc rfl).undE hg) (fun g u1 W hk hgk h1 => by have h1 : u1 = _ := h1; subst u1; exact hexIs_ok (s) hm W)) ?_
  refine .i (sp_and (hlc rfl) ((hlc rfl).weak fun hq => hq)) ?_
  refine .i (sp_assign (hlc rfl)) ?_
  refine .done ⟨by kernel_rfl, fun a4 g W4 y4 zz4 hk hg hV hR hP => ?_⟩
  obtain ⟨e2, -, -, -, -, -, -, -, -, -, -, -, -, -, -, -, -, -, -, -⟩ := hV
  replace e2 := e2.q
  replace kw := kw.x hk
  clear hR hk hg hP
  refine tail_nil (hK3 _ _ ?_)
  refine wp_ret ?_
  refine (show bodyPost Try.prog Try.f130 _ .ret _ _ from ret1 rfl zz4 e2 ⟨_, rfl, kw, ?_⟩)
  have ht : (s.size : Int).tmod 2 = ((s.size % 2 : Nat) : Int) := by rw [Int.tmod_eq_emod_of_nonneg (by omega)]; push_cast; rfl
  refine congrArg Value.bool ?_
  rw [Bool.eq_iff_iff, ht]
  simp [digR]
  constructor
  · rintro ⟨⟨⟨h1, h2⟩, h3⟩, h4⟩; exact ⟨by omega, by omega, by omega, h4⟩
  · rintro ⟨h1, h2, h3, h4⟩; exact ⟨⟨⟨by omega, by omega⟩, by omega⟩, h4⟩
set_option maxRecDepth 100000 in
theorem MayHashes_ok (l : List Hs) (w : World) (S : BSet) (v : Value) (hv : Rd w S (hssD l) v) : Calls Try.prog 69 #[v] w (Ret w fun u _ => u = .bool (mayH l)) := by
  obtain ⟨va, vc, ev, D_v⟩ := rdHss_out (rd_arg hv)
  subst ev
  refine enter Try.func69 rfl Try.ntmps69 (lbr rfl) fun a0 y0 zz0 harg => ?_
  have e0 : sl a0 0 = (.slice va (l.length) vc) := harg 0 (lbr rfl)
  have kw := Keeps.refl All w
  clear harg
  refine wp_seq_k fun K1 hK1 => ?_
  refine rg mixed y0 zz0 ?_
  refine .i (sp_assign Has.cst) ?_
  refine .done ⟨by kernel_rfl, fun a2 g W2 y2 zz2 hk hg hV hR hP => ?_⟩
  obtain ⟨-, -⟩ := hV
  replace e0 := (hR 0 rfl).trans e0
  replace D_v := D_v.ext hk
  replace kw := kw.x hk
  clear hR hk hg hP
  refine tail_nil (hK1 _ _ ?_)
  refine wp_seq_k fun K3 hK3 => ?_
  refine wp_seq_k fun K4 hK4 => ?_
  refine rg mixed y2 zz2 ?_
  refine .i (sp_move (hbs rfl e0)) ?_
  refine .i (sp_lenL Try.underlying85 ((hlc rfl).dat D_v sub_all)) ?_
  refine .i (sp_lss (hlc rfl) Has.cst) ?_
  refine .i (sp_move (hlc rfl)) ?_
  refine .e (t := 8) rfl (hlc rfl) (fun hg => sp_move (hbs rfl e0)) ?_
  refine .e (t := 8) rfl (hlc rfl) (fun hg => sp_lenL Try.underlying85 (((hlc rfl).undE hg).dat D_v sub_all)) ?_
  refine .e (t := 8) rfl (hlc rfl) (fun hg => sp_gtr ((hlc rfl).undE hg) Has.cst) ?_
  refine .i (sp_or (hlc rfl) ((hlc rfl).weak fun hq => hq)) ?_
  refine .done ⟨by kernel_rfl, fun a5 g W5 y5 zz5 hk hg hV hR hP => ?_⟩
  obtain ⟨e12, -, -, -, -, -, -, -, -⟩ := hV
  replace e0 := (hR 0 rfl).trans e0
  replace D_v := D_v.ext hk
  replace e12 := e12.q
  replace kw := kw.x hk
  clear hR hk hg hP
  refine tail_nil (hK4 _ _ ?_)
  refine wp_cond_split e12 (fun hc => ?_) (fun hc => ?_)
  ·
   have hfin : mayH l = false := by simp at hc; unfold mayH; rcases hc with h | h; simp [show l.length = 0 by omega]; simp [show ¬ l.length ≤ 4 by omega]
   refine wp_seq_k fun K6 hK6 => ?_
   refine rg mixed y5 zz5 ?_
   refine .i (sp_assign Has.cst) ?_
   refine .done ⟨by kernel_rfl, fun a7 g W7 y7 zz7 hk hg hV hR hP => ?_⟩
   obtain ⟨e2, -⟩ := hV
   replace D_v := D_v.ext hk
   have e2 : sl a7 2 = (.bool (false)) := e2
   replace kw := kw.x hk
   clear hR hk hg hP
   refine tail_nil (hK6 _ _ ?_)
   refine wp_ret ?_
   refine (show bodyPost Try.prog Try.f69 _ .ret _ _ from ret1 rfl zz7 e2 ⟨_, rfl, kw, ?_⟩)
   rw [hfin]
  ·
   have hl4 : 1 ≤ l.length ∧ l.length ≤ 4 := by simp at hc; omega
   refine wp_skip (hK3 _ _ ?_)
   refine wp_seq_k fun K8 hK8 => ?_
   refine wp_seq_k fun K9 hK9 => ?_
   refine rg mixed y5 zz5 ?_
   refine .i (sp_move (hbs rfl e0)) ?_
   refine .i (sp_lenL Try.underlying85 ((hlc rfl).dat D_v sub_all)) ?_
   refine .i (sp_move Has.cst) ?_
   refine .done ⟨by kernel_rfl, fun a10 g W10 y10 zz10 hk hg hV hR hP => ?_⟩
   obtain ⟨e15, e14, e13, -⟩ := hV
   replace e0 := (hR 0 rfl).trans e0
   replace D_v := D_v.ext hk
   have e13 : sl a10 13 = (.slice va (l.length) vc) := e13
   have e14 : sl a10 14 = (.int .i64 (l.length)) := e14
   have e15 : sl a10 15 = (.int .i64 (0)) := e15
   replace kw := kw.x hk
   clear hR hk hg hP
   refine tail_nil (hK9 _ _ ?_)
   refine wp_block ?_
   refine wp_for (l.length) (fun k a W => a.tmps.size = 44 ∧ a.defers = [] ∧ Keeps All w W ∧ sl a 0 = (.slice va (l.length) vc) ∧ sl a 13 = (.slice va (l.length) vc) ∧ sl a 14 = (.int .i64 (l.length)) ∧ sl a 15 = (.int .i64 ((k : Nat))) ∧ Rd W (SA w S []) (hssD (l)) (.slice va (l.length) vc) ∧ (∀ i (h : i < l.length), i < k → hsOk l[i] = true ∧ ∀ j (e : j + 1 = i), badH l[i] (l[j]'(by omega)) = false)) ⟨y10, zz10, kw, e0, e13, e14, (e15.trans (congrArg (Value.int .i64) (rfl))), D_v, fun i h hi => absurd hi (by omega)⟩ ?_
   clear kw e0 e13 e14 e15 D_v
   rintro k a11 W11 hkk ⟨y11, zz11, kw, e0, e13, e14, e15, D_v, hinv⟩
   refine wp_seq_k fun K12 hK12 => ?_
   refine rg mixed y11 zz11 ?_
   refine .i (sp_lss (hbs rfl e15) (hbs rfl e14)) ?_
   refine .done ⟨by kernel_rfl, fun a13 g W13 y13 zz13 hk hg hV hR hP => ?_⟩
   obtain ⟨e16, -⟩ := hV
   replace e0 := (hR 0 rfl).trans e0
   replace e13 := (hR 13 rfl).trans e13
   replace e14 := (hR 14 rfl).trans e14
   replace e15 := (hR 15 rfl).trans e15
   replace D_v := D_v.ext hk
   replace e16 := e16.q
   replace kw := kw.x hk
   clear hR hk hg hP
   refine tail_nil (hK12 _ _ ?_)
   refine wp_seq_k fun K14 hK14 => ?_
   refine wp_cond_split e16 (fun hc => ?_) (fun hc => ?_)
   ·
    have hlt : k < l.length := by simpa using hc
    refine wp_skip (hK14 _ _ ?_)
    refine wp_seq_k fun K15 hK15 => ?_
    refine wp_block ?_
    refine wp_seq_k fun K16 hK16 => ?_
    refine rg mixed y13 zz13 ?_
    refine .i (sp_move (hbs rfl e15)) ?_
    refine .rf (X := SA w S []) (e := Hs.d (l[k]'hlt)) (sp_indexL (i := k) ((hbs rfl e13).dat D_v sub_all) (hbs rfl e15) Try.underlying85 sz114 rfl hlt) ?_
    refine .da (X := SA w S []) (e := Hs.d (l[k]'hlt)) (sp_loadR (hlc rfl) agg114 sz114 (width_Hs _)) ?_
    refine .alloc z114 ?_
    refine .i (sp_assign (hlc rfl)) ?_
    refine .done ⟨by kernel_rfl, fun a17 g W17 y17 zz17 hk hg hV hR hP => ?_⟩
    obtain ⟨e3, ⟨b4_17, e4, hb4, own_b4_17⟩, e19, -, -, -⟩ := hV
    have lo_b4_17 : w.heap.size ≤ b4_17 := Nat.le_trans kw.size (hg.lo _ _ hb4)
    have own_b4_17 : Own W17 b4_17 [(.string (⟨#[]⟩)), (.string (⟨#[]⟩))] 114 := own_b4_17
    replace e0 := (hR 0 rfl).trans e0
    replace e13 := (hR 13 rfl).trans e13
    replace e14 := (hR 14 rfl).trans e14
    replace e15 := (hR 15 rfl).trans e15
    replace D_v := sa_more D_v hk [b4_17] (in_cons (hg.lo _ _ hb4) in_nil)
    obtain ⟨v19_17, ev⟩ : ∃ v, sl a17 19 = v := ⟨_, rfl⟩
    rw [ev] at e19
    have D_v19_17 : Rd W17 (SA w S [b4_17]) (Hs.d (l[k]'hlt)) v19_17 := sa_end e19 hk [b4_17] (in_cons ⟨_, hb4⟩ in_nil)
    replace e19 := ev; clear ev
    obtain ⟨ev, hb_v19_17_0, hb_v19_17_1⟩ := rdHs_out D_v19_17
    subst ev; clear D_v19_17
    have e3 : sl a17 3 = (.int .i64 ((k : Nat))) := e3
    replace kw := kw.x hk
    clear hR hk hg hP hb4
    refine tail_store (b := b4_17) (o := 0) (v := (.agg #[(.string ((l[k]'hlt).al)), (.string ((l[k]'hlt).hx))])) e4 e19 sz114 rfl own_b4_17 (lbr rfl) (all_cons rfl (all_cons rfl all_nil)) (fun W18 hs own_b4_17 => ?_)
    have own_b4_17 : Own W18 b4_17 [(.string ((l[k]'hlt).al)), (.string ((l[k]'hlt).hx))] 114 := own_b4_17
    replace D_v := sa_store D_v hs (by simp)
    replace kw := keeps_store kw hs lo_b4_17
    clear hs
    refine tail_nil (hK16 _ _ ?_)
    refine wp_seq_k fun K19 hK19 => ?_
    refine wp_seq_k fun K20 hK20 => ?_
    refine rg mixed y17 zz17 ?_
    refine .i (fo 0 (hbs rfl e4) Try.underlying114 rfl sz9 rfl) ?_
    refine .i (lo1 (hlc rfl) own_b4_17 trivial agg9 sz9 rfl) ?_
    refine .i (v := (.bool (roleB ((l[k]'hlt).al)))) (sp_call1 (φ1 := Is (.string ((l[k]'hlt).al))) ent116 (hlc rfl) (fun g u1 W hk hgk h1 => by have h1 : u1 = _ := h1; subst u1; exact Role_ok ((l[k]'hlt).al) (rdHss_at D_v hlt).1 W)) ?_
    refine .i (sp_not (hlc rfl)) ?_
    refine .i (sp_move (hlc rfl)) ?_
    refine .e (t := 24) rfl (hlc rfl) (fun hg => fo 1 (hbs rfl e4) Try.underlying114 rfl sz9 rfl) ?_
    refine .e (t := 24) rfl (hlc rfl) (fun hg => lo1 ((hlc rfl).undE hg) own_b4_17 trivial agg9 sz9 rfl) ?_
    refine .e (t := 24) (v := (.bool (digR ((l[k]'hlt).hx)))) rfl (hlc rfl) (fun hg => sp_call1 (φ1 := Is (.string ((l[k]'hlt).hx))) ent130 ((hlc rfl).undE hg) (fun g u1 W hk hgk h1 => by have h1 : u1 = _ := h1; subst u1; exact digR_ok ((l[k]'hlt).hx) (rdHss_at D_v hlt).2 W)) ?_
    refine .e (t := 24) rfl (hlc rfl) (fun hg => sp_not ((hlc rfl).undE hg)) ?_
    refine .i (sp_or (hlc rfl) ((hlc rfl).weak fun hq => hq)) ?_
    refine .done ⟨by kernel_rfl, fun a21 g W21 y21 zz21 hk hg hV hR hP => ?_⟩
    obtain ⟨e29, -, -, -, -, -, -, -, -, -, -⟩ := hV
    replace e0 := (hR 0 rfl).trans e0
    replace e13 := (hR 13 rfl).trans e13
    replace e14 := (hR 14 rfl).trans e14
    replace e15 := (hR 15 rfl).trans e15
    replace e4 := (hR 4 rfl).trans e4
    replace e3 := (hR 3 rfl).trans e3
    replace D_v := D_v.ext hk
    replace e29 := e29.q
    replace own_b4_17 := own_b4_17.ext hk
    replace kw := kw.x hk
    clear hR hk hg hP
    refine tail_nil (hK20 _ _ ?_)
    refine wp_cond_split e29 (fun hc => ?_) (fun hc => ?_)
    ·
     have hfin : mayH l = false := by unfold mayH; rw [all_false hlt (by simp at hc; simp [hsOk]; intro h; rcases hc with h1 | h1; rw [h1] at h; cases h; exact h1)]; simp
     refine wp_seq_k fun K22 hK22 => ?_
     refine rg mixed y21 zz21 ?_
     refine .i (sp_assign Has.cst) ?_
     refine .done ⟨by kernel_rfl, fun a23 g W23 y23 zz23 hk hg hV hR hP => ?_⟩
     obtain ⟨e2, -⟩ := hV
     replace D_v := D_v.ext hk
     have e2 : sl a23 2 = (.bool (false)) := e2
     replace own_b4_17 := own_b4_17.ext hk
     replace kw := kw.x hk
     clear hR hk hg hP
     refine tail_nil (hK22 _ _ ?_)
     refine wp_ret ?_
     refine (show bodyPost Try.prog Try.f69 _ .ret _ _ from ret1 rfl zz23 e2 ⟨_, rfl, kw, ?_⟩)
     rw [hfin]
    ·
     have hk1 : hsOk (l[k]'hlt) = true := by simp at hc; simp [hsOk, hc]
     refine wp_skip (hK19 _ _ ?_)
     refine wp_seq_k fun K24 hK24 => ?_
     refine rg mixed y21 zz21 ?_
     refine .i (sp_move (hbs rfl e3)) ?_
     refine .i (sp_gtr (hlc rfl) Has.cst) ?_
     refine .i (sp_move (hlc rfl)) ?_
     refine .e (t := 32) rfl (hlc rfl) (fun hg => fo 0 (hbs rfl e4) Try.underlying114 rfl sz9 rfl) ?_
     refine .e (t := 32) rfl (hlc rfl) (fun hg => lo1 ((hlc rfl).undE hg) own_b4_17 trivial agg9 sz9 rfl) ?_
     refine .e (t := 32) rfl (hlc rfl) (fun hg => sp_move (hbs rfl e0)) ?_
     refine .e (t := 32) rfl (hlc rfl) (fun hg => sp_move (hbs rfl e3)) ?_
     refine .e (t := 32) rfl (hlc rfl) (fun hg => sp_sub ((hlc rfl).undE hg) Has.cst (i64_in (by omega))) ?_
     refine .opE (t := 32) (φ := IsR (SA w S [b4_17]) (Hs.d (l[(k - 1)]'(by omega)))) rfl (hlc rfl) (st_r sub_all) (fun hg => sp_indexL (i := (k - 1)) (((hlc rfl).undE hg).dat D_v sub_all) ((hlc rfl).undE hg) Try.underlying85 sz114 (by have := of_decide_eq_true hg; omega) (by omega)) ?_
     refine .opE (t := 32) (φ := IsR (SA w S [b4_17]) (D.str ((l[(k - 1)]'(by omega)).al))) rfl (hlc rfl) (st_r sub_all) (fun hg => sp_fieldR ((hlc rfl).undE hg) Try.underlying114 rfl sz9 rfl (by first | rfl | simp [widths, width, hssD, width_V])) ?_
     refine .e (t := 32) rfl (hlc rfl) (fun hg => sp_loadStr ((hlc rfl).undE hg) agg9 sz9) ?_
     refine .e (t := 32) rfl (hlc rfl) (fun hg => sp_sLeq ((hlc rfl).undE hg) ((hlc rfl).undE hg)) ?_
     refine .i (sp_and (hlc rfl) ((hlc rfl).weak fun hq => hq)) ?_
     refine .done ⟨by kernel_rfl, fun a25 g W25 y25 zz25 hk hg hV hR hP => ?_⟩
     obtain ⟨e42, -, -, -, -, -, -, -, -, -, -, -, -, -⟩ := hV
     replace e0 := (hR 0 rfl).trans e0
     replace e13 := (hR 13 rfl).trans e13
     replace e14 := (hR 14 rfl).trans e14
     replace e15 := (hR 15 rfl).trans e15
     replace D_v := D_v.ext hk
     replace e42 := e42.q
     replace own_b4_17 := own_b4_17.ext hk
     replace kw := kw.x hk
     clear hR hk hg hP
     refine tail_nil (hK24 _ _ ?_)
     refine wp_cond_split e42 (fun hc => ?_) (fun hc => ?_)
     ·
      have hfin : mayH l = false := by unfold mayH; simp at hc; rw [ascH_false l (k - 1) (by omega) (by simp only [Nat.sub_add_cancel (show 1 ≤ k by omega)]; simp [badH]; exact hc.2)]; simp
      refine wp_seq_k fun K26 hK26 => ?_
      refine rg mixed y25 zz25 ?_
      refine .i (sp_assign Has.cst) ?_
      refine .done ⟨by kernel_rfl, fun a27 g W27 y27 zz27 hk hg hV hR hP => ?_⟩
      obtain ⟨e2, -⟩ := hV
      replace D_v := D_v.ext hk
      have e2 : sl a27 2 = (.bool (false)) := e2
      replace own_b4_17 := own_b4_17.ext hk
      replace kw := kw.x hk
      clear hR hk hg hP
      refine tail_nil (hK26 _ _ ?_)
      refine wp_ret ?_
      refine (show bodyPost Try.prog Try.f69 _ .ret _ _ from ret1 rfl zz27 e2 ⟨_, rfl, kw, ?_⟩)
      rw [hfin]
     ·
      have hk2 : ∀ i, i + 1 = k → (hi : i < l.length) → badH (l[k]'hlt) (l[i]'hi) = false := by intro i e hi; simp at hc; subst e; have := hc (by omega); simpa [badH] using this
      refine wp_skip (hK15 _ _ ?_)
      refine rg mixed y25 zz25 ?_
      refine .i (sp_add (hbs rfl e15) Has.cst (i64_in (by omega))) ?_
      refine .i (sp_move (hlc rfl)) ?_
      refine .done ⟨by kernel_rfl, fun a28 g W28 y28 zz28 hk hg hV hR hP => ?_⟩
      obtain ⟨e15, -, -⟩ := hV
      replace e0 := (hR 0 rfl).trans e0
      replace e13 := (hR 13 rfl).trans e13
      replace e14 := (hR 14 rfl).trans e14
      replace D_v := D_v.ext hk
      replace e15 := e15.q
      replace own_b4_17 := own_b4_17.ext hk
      replace kw := kw.x hk
      clear hR hk hg hP
      exact tail_nil ⟨hlt, y28, zz28, kw, e0, e13, e14, (e15.trans (congrArg (Value.int .i64) (by simp))), (sa_less D_v ls_nil), fun i h hi => by rcases Nat.lt_succ_iff_lt_or_eq.1 hi with h1 | h1; exact hinv i h h1; subst h1; exact ⟨hk1, fun j e => hk2 j e (by omega)⟩⟩
   ·
    have hge0 : ¬ k < l.length := by simpa using hc
    have hge : k = l.length := by omega
    have hfin : mayH l = true := by unfold mayH; rw [all_true fun i h => (hinv i h (by omega)).1, ascH_true l fun i h => (hinv (i + 1) h (by omega)).2 i rfl]; simp [hl4.1, hl4.2]
    refine wp_exit (hK8 _ _ ?_)
    refine wp_seq_k fun K29 hK29 => ?_
    refine rg mixed y13 zz13 ?_
    refine .i (sp_assign Has.cst) ?_
    refine .done ⟨by kernel_rfl, fun a30 g W30 y30 zz30 hk hg hV hR hP => ?_⟩
    obtain ⟨e2, -⟩ := hV
    replace D_v := D_v.ext hk
    have e2 : sl a30 2 = (.bool (true)) := e2
    replace kw := kw.x hk
    clear hR hk hg hP
    refine tail_nil (hK29 _ _ ?_)
    refine wp_ret ?_
    refine (show bodyPost Try.prog Try.f69 _ .ret _ _ from ret1 rfl zz30 e2 ⟨_, rfl, kw, ?_⟩)
    rw [hfin]
set_option maxRecDepth 100000 in
theorem sameHs_ok (p q : List Hs) (w : World) (S : BSet) (v u : Value) (hv : Rd w S (hssD p) v) (hu : Rd w S (hssD q) u) : Calls Try.prog 120 #[v, u] w (Ret w fun r _ => r = .bool (sameH p q)) := by
  have hmx : p.length ≤ maxLen := rdHss_len hv
  simp only [maxLen] at hmx
  obtain ⟨va, vc, ev, D_v⟩ := rdHss_out (rd_arg hv)
  subst ev
  obtain ⟨ua, uc, ev, D_u⟩ := rdHss_out (rd_arg hu)
  subst ev
  refine enter Try.func120 rfl Try.ntmps120 (lbr rfl) fun a0 y0 zz0 harg => ?_
  have e0 : sl a0 0 = (.slice va (p.length) vc) := harg 0 (lbr rfl)
  have e1 : sl a0 1 = (.slice ua (q.length) uc) := harg 1 (lbr rfl)
  have kw := Keeps.refl All w
  clear harg
  refine wp_seq_k fun K1 hK1 => ?_
  refine rg mixed y0 zz0 ?_
  refine .i (sp_assign Has.cst) ?_
  refine .done ⟨by kernel_rfl, fun a2 g W2 y2 zz2 hk hg hV hR hP => ?_⟩
  obtain ⟨-, -⟩ := hV
  replace e0 := (hR 0 rfl).trans e0
  replace e1 := (hR 1 rfl).trans e1
  replace D_v := D_v.ext hk
  replace D_u := D_u.ext hk
  replace kw := kw.x hk
  clear hR hk hg hP
  refine tail_nil (hK1 _ _ ?_)
  refine wp_seq_k fun K3 hK3 => ?_
  refine wp_seq_k fun K4 hK4 => ?_
  refine rg mixed y2 zz2 ?_
  refine .i (sp_move (hbs rfl e0)) ?_
  refine .i (sp_lenL Try.underlying85 ((hlc rfl).dat D_v sub_all)) ?_
  refine .i (sp_move (hbs rfl e1)) ?_
  refine .i (sp_lenL Try.underlying85 ((hlc rfl).dat D_u sub_all)) ?_
  refine .i (sp_neq (hlc rfl) (hlc rfl)) ?_
  refine .done ⟨by kernel_rfl, fun a5 g W5 y5 zz5 hk hg hV hR hP => ?_⟩
  obtain ⟨e11, -, -, -, -, -⟩ := hV
  replace e0 := (hR 0 rfl).trans e0
  replace e1 := (hR 1 rfl).trans e1
  replace D_v := D_v.ext hk
  replace D_u := D_u.ext hk
  replace e11 := e11.q
  replace kw := kw.x hk
  clear hR hk hg hP
  refine tail_nil (hK4 _ _ ?_)
  refine wp_cond_split e11 (fun hc => ?_) (fun hc => ?_)
  ·
   have hfin : sameH p q = false := sameH_false fun h => by subst h; simp at hc
   refine wp_seq_k fun K6 hK6 => ?_
   refine rg mixed y5 zz5 ?_
   refine .i (sp_assign Has.cst) ?_
   refine .done ⟨by kernel_rfl, fun a7 g W7 y7 zz7 hk hg hV hR hP => ?_⟩
   obtain ⟨e4, -⟩ := hV
   replace D_v := D_v.ext hk
   replace D_u := D_u.ext hk
   have e4 : sl a7 4 = (.bool (false)) := e4
   replace kw := kw.x hk
   clear hR hk hg hP
   refine tail_nil (hK6 _ _ ?_)
   refine wp_ret ?_
   refine (show bodyPost Try.prog Try.f120 _ .ret _ _ from ret1 rfl zz7 e4 ⟨_, rfl, kw, ?_⟩)
   rw [hfin]
  ·
   have hle : p.length = q.length := by simp at hc; omega
   refine wp_skip (hK3 _ _ ?_)
   refine wp_seq_k fun K8 hK8 => ?_
   refine wp_seq_k fun K9 hK9 => ?_
   refine rg mixed y5 zz5 ?_
   refine .i (sp_move (hbs rfl e0)) ?_
   refine .i (sp_lenL Try.underlying85 ((hlc rfl).dat D_v sub_all)) ?_
   refine .i (sp_move Has.cst) ?_
   refine .done ⟨by kernel_rfl, fun a10 g W10 y10 zz10 hk hg hV hR hP => ?_⟩
   obtain ⟨e14, e13, e12, -⟩ := hV
   replace e1 := (hR 1 rfl).trans e1
   replace D_v := D_v.ext hk
   replace D_u := D_u.ext hk
   have e12 : sl a10 12 = (.slice va (p.length) vc) := e12
   have e13 : sl a10 13 = (.int .i64 (p.length)) := e13
   have e14 : sl a10 14 = (.int .i64 (0)) := e14
   replace kw := kw.x hk
   clear hR hk hg hP
   refine tail_nil (hK9 _ _ ?_)
   refine wp_block ?_
   refine wp_for (p.length) (fun k a W => a.tmps.size = 26 ∧ a.defers = [] ∧ Keeps All w W ∧ sl a 1 = (.slice ua (q.length) uc) ∧ sl a 12 = (.slice va (p.length) vc) ∧ sl a 13 = (.int .i64 (p.length)) ∧ sl a 14 = (.int .i64 ((k : Nat))) ∧ Rd W (SA w S []) (hssD (p)) (.slice va (p.length) vc) ∧ Rd W (SA w S []) (hssD (q)) (.slice ua (q.length) uc) ∧ (∀ i (h1 : i < p.length) (h2 : i < q.length), i < k → p[i] = q[i])) ⟨y10, zz10, kw, e1, e12, e13, (e14.trans (congrArg (Value.int .i64) (rfl))), D_v, D_u, fun i h1 h2 hi => absurd hi (by omega)⟩ ?_
   clear kw e1 e12 e13 e14 D_v D_u
   rintro k a11 W11 hkk ⟨y11, zz11, kw, e1, e12, e13, e14, D_v, D_u, hinv⟩
   refine wp_seq_k fun K12 hK12 => ?_
   refine rg mixed y11 zz11 ?_
   refine .i (sp_lss (hbs rfl e14) (hbs rfl e13)) ?_
   refine .done ⟨by kernel_rfl, fun a13 g W13 y13 zz13 hk hg hV hR hP => ?_⟩
   obtain ⟨e15, -⟩ := hV
   replace e1 := (hR 1 rfl).trans e1
   replace e12 := (hR 12 rfl).trans e12
   replace e13 := (hR 13 rfl).trans e13
   replace e14 := (hR 14 rfl).trans e14
   replace D_v := D_v.ext hk
   replace D_u := D_u.ext hk
   replace e15 := e15.q
   replace kw := kw.x hk
   clear hR hk hg hP
   refine tail_nil (hK12 _ _ ?_)
   refine wp_seq_k fun K14 hK14 => ?_
   refine wp_cond_split e15 (fun hc => ?_) (fun hc => ?_)
   ·
    have hlt : k < p.length := by simpa using hc
    refine wp_skip (hK14 _ _ ?_)
    refine wp_seq_k fun K15 hK15 => ?_
    refine wp_block ?_
    refine wp_seq_k fun K16 hK16 => ?_
    refine rg mixed y13 zz13 ?_
    refine .i (sp_move (hbs rfl e14)) ?_
    refine .rf (X := SA w S []) (e := Hs.d (p[k]'hlt)) (sp_indexL (i := k) ((hbs rfl e12).dat D_v sub_all) (hbs rfl e14) Try.underlying85 sz114 rfl hlt) ?_
    refine .da (X := SA w S []) (e := Hs.d (p[k]'hlt)) (sp_loadR (hlc rfl) agg114 sz114 (width_Hs _)) ?_
    refine .alloc z114 ?_
    refine .i (sp_assign (hlc rfl)) ?_
    refine .done ⟨by kernel_rfl, fun a17 g W17 y17 zz17 hk hg hV hR hP => ?_⟩
    obtain ⟨e5, ⟨b6_17, e6, hb6, own_b6_17⟩, e18, -, -, -⟩ := hV
    have lo_b6_17 : w.heap.size ≤ b6_17 := Nat.le_trans kw.size (hg.lo _ _ hb6)
    have own_b6_17 : Own W17 b6_17 [(.string (⟨#[]⟩)), (.string (⟨#[]⟩))] 114 := own_b6_17
    replace e1 := (hR 1 rfl).trans e1
    replace e12 := (hR 12 rfl).trans e12
    replace e13 := (hR 13 rfl).trans e13
    replace e14 := (hR 14 rfl).trans e14
    replace D_v := sa_more D_v hk [b6_17] (in_cons (hg.lo _ _ hb6) in_nil)
    replace D_u := sa_more D_u hk [b6_17] (in_cons (hg.lo _ _ hb6) in_nil)
    obtain ⟨v18_17, ev⟩ : ∃ v, sl a17 18 = v := ⟨_, rfl⟩
    rw [ev] at e18
    have D_v18_17 : Rd W17 (SA w S [b6_17]) (Hs.d (p[k]'hlt)) v18_17 := sa_end e18 hk [b6_17] (in_cons ⟨_, hb6⟩ in_nil)
    replace e18 := ev; clear ev
    obtain ⟨ev, hb_v18_17_0, hb_v18_17_1⟩ := rdHs_out D_v18_17
    subst ev; clear D_v18_17
    have e5 : sl a17 5 = (.int .i64 ((k : Nat))) := e5
    replace kw := kw.x hk
    clear hR hk hg hP hb6
    refine tail_store (b := b6_17) (o := 0) (v := (.agg #[(.string ((p[k]'hlt).al)), (.string ((p[k]'hlt).hx))])) e6 e18 sz114 rfl own_b6_17 (lbr rfl) (all_cons rfl (all_cons rfl all_nil)) (fun W18 hs own_b6_17 => ?_)
    have own_b6_17 : Own W18 b6_17 [(.string ((p[k]'hlt).al)), (.string ((p[k]'hlt).hx))] 114 := own_b6_17
    replace D_v := sa_store D_v hs (by simp)
    replace D_u := sa_store D_u hs (by simp)
    replace kw := keeps_store kw hs lo_b6_17
    clear hs
    refine tail_nil (hK16 _ _ ?_)
    refine wp_seq_k fun K19 hK19 => ?_
    refine rg mixed y17 zz17 ?_
    refine .i (v := (.agg #[(.string ((p[k]'hlt).al)), (.string ((p[k]'hlt).hx))])) (loA (hbs rfl e6) own_b6_17 trivial agg114 sz114 rfl rfl) ?_
    refine .i (sp_move (hbs rfl e1)) ?_
    refine .i (sp_move (hbs rfl e5)) ?_
    refine .rf (X := SA w S [b6_17]) (e := Hs.d (q[k]'(by omega))) (sp_indexL (i := k) ((hlc rfl).dat D_u sub_all) (hlc rfl) Try.underlying85 sz114 rfl (by omega)) ?_
    refine .da (X := SA w S [b6_17]) (e := Hs.d (q[k]'(by omega))) (sp_loadR (hlc rfl) agg114 sz114 (width_Hs _)) ?_
    refine .i (v := (.bool (!hsEq ((p[k]'hlt)) (q[k]'(by omega))))) (sp_hsNeq eqHs ((hlc rfl).dat (rdHs_mk hb_v18_17_0 hb_v18_17_1 : Rd W18 (SA w S [b6_17]) (Hs.d ((p[k]'hlt))) _) sub_all) (hlc rfl)) ?_
    refine .done ⟨by kernel_rfl, fun a20 g W20 y20 zz20 hk hg hV hR hP => ?_⟩
    obtain ⟨e24, -, -, -, -, -, -⟩ := hV
    replace e1 := (hR 1 rfl).trans e1
    replace e12 := (hR 12 rfl).trans e12
    replace e13 := (hR 13 rfl).trans e13
    replace e14 := (hR 14 rfl).trans e14
    replace D_v := D_v.ext hk
    replace D_u := D_u.ext hk
    replace e24 := e24.q
    replace own_b6_17 := own_b6_17.ext hk
    replace kw := kw.x hk
    clear hR hk hg hP
    refine tail_nil (hK19 _ _ ?_)
    refine wp_cond_split e24 (fun hc => ?_) (fun hc => ?_)
    ·
     have hfin : sameH p q = false := sameH_false fun h => by subst h; simp [hsEq] at hc
     refine wp_seq_k fun K21 hK21 => ?_
     refine rg mixed y20 zz20 ?_
     refine .i (sp_assign Has.cst) ?_
     refine .done ⟨by kernel_rfl, fun a22 g W22 y22 zz22 hk hg hV hR hP => ?_⟩
     obtain ⟨e4, -⟩ := hV
     replace D_v := D_v.ext hk
     replace D_u := D_u.ext hk
     have e4 : sl a22 4 = (.bool (false)) := e4
     replace own_b6_17 := own_b6_17.ext hk
     replace kw := kw.x hk
     clear hR hk hg hP
     refine tail_nil (hK21 _ _ ?_)
     refine wp_ret ?_
     refine (show bodyPost Try.prog Try.f120 _ .ret _ _ from ret1 rfl zz22 e4 ⟨_, rfl, kw, ?_⟩)
     rw [hfin]
    ·
     have hk1 : p[k] = q[k] := by simpa [hsEq_iff] using hc
     refine wp_skip (hK15 _ _ ?_)
     refine rg mixed y20 zz20 ?_
     refine .i (sp_add (hbs rfl e14) Has.cst (i64_in (by omega))) ?_
     refine .i (sp_move (hlc rfl)) ?_
     refine .done ⟨by kernel_rfl, fun a23 g W23 y23 zz23 hk hg hV hR hP => ?_⟩
     obtain ⟨e14, -, -⟩ := hV
     replace e1 := (hR 1 rfl).trans e1
     replace e12 := (hR 12 rfl).trans e12
     replace e13 := (hR 13 rfl).trans e13
     replace D_v := D_v.ext hk
     replace D_u := D_u.ext hk
     replace e14 := e14.q
     replace own_b6_17 := own_b6_17.ext hk
     replace kw := kw.x hk
     clear hR hk hg hP
     exact tail_nil ⟨hlt, y23, zz23, kw, e1, e12, e13, (e14.trans (congrArg (Value.int .i64) (by simp))), (sa_less D_v ls_nil), (sa_less D_u ls_nil), fun i h1 h2 hi => by rcases Nat.lt_succ_iff_lt_or_eq.1 hi with h | h; exact hinv i h1 h2 h; subst h; exact hk1⟩
   ·
    have hge0 : ¬ k < p.length := by simpa using hc
    have hge : k = p.length := by omega
    have hfin : sameH p q = true := (sameH_iff p q).2 (List.ext_getElem hle fun i h1 h2 => hinv i h1 h2 (by omega))
    refine wp_exit (hK8 _ _ ?_)
    refine wp_seq_k fun K24 hK24 => ?_
    refine rg mixed y13 zz13 ?_
    refine .i (sp_assign Has.cst) ?_
    refine .done ⟨by kernel_rfl, fun a25 g W25 y25 zz25 hk hg hV hR hP => ?_⟩
    obtain ⟨e4, -⟩ := hV
    replace D_v := D_v.ext hk
    replace D_u := D_u.ext hk
    have e4 : sl a25 4 = (.bool (true)) := e4
    replace kw := kw.x hk
    clear hR hk hg hP
    refine tail_nil (hK24 _ _ ?_)
    refine wp_ret ?_
    refine (show bodyPost Try.prog Try.f120 _ .ret _ _ from ret1 rfl zz25 e4 ⟨_, rfl, kw, ?_⟩)
    rw [hfin]
set_option maxRecDepth 100000 in
theorem none_ok (x : V) (w : World) (S : BSet) (v : Value) (hv : Rd w S x.d v) : Calls Try.prog 131 #[v] w (Ret w fun u _ => u = .bool (noneB x)) := by
  obtain ⟨cn0a, cn0c, ci0a, ci0c, ev, ht0, D_cn0, D_ci0⟩ := rdV_out (rd_arg hv)
  subst ev
  refine enter Try.func131 rfl Try.ntmps131 (lbr rfl) fun a0 y0 zz0 harg => ?_
  have e0 : sl a0 0 = (.agg #[(.int .u8 (x.k)), (.int .i64 (x.n)), (.string (x.t)), (.slice cn0a (x.ns.length) cn0c), (.slice ci0a (x.xs.length) ci0c)]) := harg 0 (lbr rfl)
  have kw := Keeps.refl All w
  clear harg
  refine wp_seq_k fun K1 hK1 => ?_
  refine rg mixed y0 zz0 ?_
  refine .boxOp (v := (.agg #[(.int .u8 (x.k)), (.int .i64 (x.n)), (.string (x.t)), (.slice cn0a (x.ns.length) cn0c), (.slice ci0a (x.xs.length) ci0c)])) (hbs rfl e0) ?_
  refine .i (sp_assign Has.cst) ?_
  refine .done ⟨by kernel_rfl, fun a2 g W2 y2 zz2 hk hg hV hR hP => ?_⟩
  obtain ⟨-, ⟨b1_2, e1, hb1, own_b1_2⟩, -⟩ := hV
  have lo_b1_2 : w.heap.size ≤ b1_2 := Nat.le_trans kw.size (hg.lo _ _ hb1)
  have own_b1_2 : Own W2 b1_2 [(.int .u8 (x.k)), (.int .i64 (x.n)), (.string (x.t)), (.slice cn0a (x.ns.length) cn0c), (.slice ci0a (x.xs.length) ci0c)] 33 := own_b1_2
  replace D_cn0 := sa_more D_cn0 hk [b1_2] (in_cons (hg.lo _ _ hb1) in_nil)
  replace D_ci0 := sa_more D_ci0 hk [b1_2] (in_cons (hg.lo _ _ hb1) in_nil)
  replace kw := kw.x hk
  clear hR hk hg hP hb1
  refine tail_nil (hK1 _ _ ?_)
  refine wp_seq_k fun K3 hK3 => ?_
  refine rg mixed y2 zz2 ?_
  refine .i (fo 0 (hbs rfl e1) Try.underlying33 rfl sz5 rfl) ?_
  refine .i (lo1 (hlc rfl) own_b1_2 trivial agg5 sz5 rfl) ?_
  refine .i (sp_eql (hlc rfl) Has.cst) ?_
  refine .i (sp_move (hlc rfl)) ?_
  refine .e (t := 6) rfl (hlc rfl) (fun hg => fo 1 (hbs rfl e1) Try.underlying33 rfl sz2 rfl) ?_
  refine .e (t := 6) rfl (hlc rfl) (fun hg => lo1 ((hlc rfl).undE hg) own_b1_2 trivial agg2 sz2 rfl) ?_
  refine .e (t := 6) rfl (hlc rfl) (fun hg => sp_eql ((hlc rfl).undE hg) Has.cst) ?_
  refine .i (sp_and (hlc rfl) ((hlc rfl).weak fun hq => hq)) ?_
  refine .i (sp_move (hlc rfl)) ?_
  refine .e (t := 11) rfl (hlc rfl) (fun hg => fo 2 (hbs rfl e1) Try.underlying33 rfl sz9 rfl) ?_
  refine .e (t := 11) rfl (hlc rfl) (fun hg => lo1 ((hlc rfl).undE hg) own_b1_2 trivial agg9 sz9 rfl) ?_
  refine .e (t := 11) rfl (hlc rfl) (fun hg => sp_sEql ((hlc rfl).undE hg) Has.cst) ?_
  refine .i (sp_and (hlc rfl) ((hlc rfl).weak fun hq => hq)) ?_
  refine .i (sp_move (hlc rfl)) ?_
  refine .e (t := 16) rfl (hlc rfl) (fun hg => fo 3 (hbs rfl e1) Try.underlying33 rfl sz23 rfl) ?_
  refine .e (t := 16) rfl (hlc rfl) (fun hg => lo1 ((hlc rfl).undE hg) own_b1_2 trivial agg23 sz23 rfl) ?_
  refine .e (t := 16) rfl (hlc rfl) (fun hg => sp_lenSs Try.underlying23 (((hlc rfl).undE hg).dat D_cn0 sub_all)) ?_
  refine .e (t := 16) rfl (hlc rfl) (fun hg => sp_eql ((hlc rfl).undE hg) Has.cst) ?_
  refine .i (sp_and (hlc rfl) ((hlc rfl).weak fun hq => hq)) ?_
  refine .i (sp_move (hlc rfl)) ?_
  refine .e (t := 22) rfl (hlc rfl) (fun hg => fo 4 (hbs rfl e1) Try.underlying33 rfl sz31 rfl) ?_
  refine .e (t := 22) rfl (hlc rfl) (fun hg => lo1 ((hlc rfl).undE hg) own_b1_2 trivial agg31 sz31 rfl) ?_
  refine .e (t := 22) rfl (hlc rfl) (fun hg => sp_lenVs Try.underlying31 (((hlc rfl).undE hg).dat D_ci0 sub_all)) ?_
  refine .e (t := 22) rfl (hlc rfl) (fun hg => sp_eql ((hlc rfl).undE hg) Has.cst) ?_
  refine .i (sp_and (hlc rfl) ((hlc rfl).weak fun hq => hq)) ?_
  refine .i (sp_assign (hlc rfl)) ?_
  refine .done ⟨by kernel_rfl, fun a4 g W4 y4 zz4 hk hg hV hR hP => ?_⟩
  obtain ⟨e2, -, -, -, -, -, -, -, -, -, -, -, -, -, -, -, -, -, -, -, -, -, -, -, -, -, -⟩ := hV
  replace D_cn0 := D_cn0.ext hk
  replace D_ci0 := D_ci0.ext hk
  replace e2 := e2.q
  replace own_b1_2 := own_b1_2.ext hk
  replace kw := kw.x hk
  clear hR hk hg hP
  refine tail_nil (hK3 _ _ ?_)
  refine wp_ret ?_
  refine (show bodyPost Try.prog Try.f131 _ .ret _ _ from ret1 rfl zz4 e2 ⟨_, rfl, kw, ?_⟩)
  refine congrArg Value.bool ?_
  rw [Bool.eq_iff_iff]
  simp [noneB]
  constructor
  · rintro ⟨⟨⟨⟨h1, h2⟩, h3⟩, h4⟩, h5⟩; exact ⟨by omega, h2, h3, h4, h5⟩
  · rintro ⟨h1, h2, h3, h4, h5⟩; exact ⟨⟨⟨⟨by omega, h2⟩, h3⟩, h4⟩, h5⟩
end Go.Proofs.Ytnobijngkpflcaa
namespace Go.Proofs.Ytnobijngkpflcaa
open Go.Eng
set_option maxRecDepth 100000 in
theorem pkText_ok (t : ByteArray) (w : World) : Calls Try.prog 37 #[.string t] w (Ret w fun u _ => u = .agg #[.int .u8 3, .int .i64 0, .string t, .slice none 0 0, .slice none 0 0]) := by
  refine enter Try.func37 rfl Try.ntmps37 (lbr rfl) fun a0 y0 zz0 harg => ?_
  have e0 : sl a0 0 = (.string (t)) := harg 0 (lbr rfl)
  have kw := Keeps.refl All w
  clear harg
  refine wp_seq_k fun K1 hK1 => ?_
  refine rg mixed y0 zz0 ?_
  refine .alloc z33 ?_
  refine .done ⟨by kernel_rfl, fun a2 g W2 y2 zz2 hk hg hV hR hP => ?_⟩
  obtain ⟨⟨b2_2, e2, hb2, own_b2_2⟩, -⟩ := hV
  have lo_b2_2 : w.heap.size ≤ b2_2 := Nat.le_trans kw.size (hg.lo _ _ hb2)
  have own_b2_2 : Own W2 b2_2 [(.int .u8 (0)), (.int .i64 (0)), (.string (⟨#[]⟩)), (.slice none 0 0), (.slice none 0 0)] 33 := own_b2_2
  replace e0 := (hR 0 rfl).trans e0
  replace kw := kw.x hk
  clear hR hk hg hP hb2
  refine tail_nil (hK1 _ _ ?_)
  refine wp_seq_k fun K3 hK3 => ?_
  refine rg mixed y2 zz2 ?_
  refine .i (sp_move (hbs rfl e0)) ?_
  refine .i (v := (.agg #[(.int .u8 (3)), (.int .i64 (0)), (.string (t)), (.slice none 0 0), (.slice none 0 0)])) (sp_build (vs := [(0, (.int .u8 (3))), (2, (.string (t)))]) Try.underlying33 z33 (pl33 Try.underlying33) ⟨rfl, Has.cst, rfl, (hlc rfl), trivial⟩ rfl) ?_
  refine .done ⟨by kernel_rfl, fun a4 g W4 y4 zz4 hk hg hV hR hP => ?_⟩
  obtain ⟨e4, -, -⟩ := hV
  replace e2 := (hR 2 rfl).trans e2
  replace e4 := e4.q
  replace own_b2_2 := own_b2_2.ext hk
  replace kw := kw.x hk
  clear hR hk hg hP
  refine tail_store (b := b2_2) (o := 0) (v := (.agg #[(.int .u8 (3)), (.int .i64 (0)), (.string (t)), (.slice none 0 0), (.slice none 0 0)])) e2 e4 sz33 rfl own_b2_2 (lbr rfl) (all_cons rfl (all_cons rfl (all_cons rfl (all_cons rfl (all_cons rfl all_nil))))) (fun W5 hs own_b2_2 => ?_)
  have own_b2_2 : Own W5 b2_2 [(.int .u8 (3)), (.int .i64 (0)), (.string (t)), (.slice none 0 0), (.slice none 0 0)] 33 := own_b2_2
  replace kw := keeps_store kw hs lo_b2_2
  clear hs
  refine tail_nil (hK3 _ _ ?_)
  refine wp_ret ?_
  refine (show bodyPost Try.prog Try.f37 _ .ret _ _ from retC (v := (.agg #[(.int .u8 (3)), (.int .i64 (0)), (.string (t)), (.slice none 0 0), (.slice none 0 0)])) rfl zz4 e2 own_b2_2 agg33 sz33 rfl (fun h => by cases h) rfl ⟨_, rfl, kw, ?_⟩)
  exact rfl
set_option maxRecDepth 100000 in
theorem pkNum_ok (n : Int) (w : World) : Calls Try.prog 39 #[.int .i64 n] w (Ret w fun u _ => u = .agg #[.int .u8 2, .int .i64 n, .string ⟨#[]⟩, .slice none 0 0, .slice none 0 0]) := by
  refine enter Try.func39 rfl Try.ntmps39 (lbr rfl) fun a0 y0 zz0 harg => ?_
  have e0 : sl a0 0 = (.int .i64 (n)) := harg 0 (lbr rfl)
  have kw := Keeps.refl All w
  clear harg
  refine wp_seq_k fun K1 hK1 => ?_
  refine rg mixed y0 zz0 ?_
  refine .alloc z33 ?_
  refine .done ⟨by kernel_rfl, fun a2 g W2 y2 zz2 hk hg hV hR hP => ?_⟩
  obtain ⟨⟨b2_2, e2, hb2, own_b2_2⟩, -⟩ := hV
  have lo_b2_2 : w.heap.size ≤ b2_2 := Nat.le_trans kw.size (hg.lo _ _ hb2)
  have own_b2_2 : Own W2 b2_2 [(.int .u8 (0)), (.int .i64 (0)), (.string (⟨#[]⟩)), (.slice none 0 0), (.slice none 0 0)] 33 := own_b2_2
  replace e0 := (hR 0 rfl).trans e0
  replace kw := kw.x hk
  clear hR hk hg hP hb2
  refine tail_nil (hK1 _ _ ?_)
  refine wp_seq_k fun K3 hK3 => ?_
  refine rg mixed y2 zz2 ?_
  refine .i (sp_move (hbs rfl e0)) ?_
  refine .i (v := (.agg #[(.int .u8 (2)), (.int .i64 (n)), (.string (⟨#[]⟩)), (.slice none 0 0), (.slice none 0 0)])) (sp_build (vs := [(0, (.int .u8 (2))), (1, (.int .i64 (n)))]) Try.underlying33 z33 (pl33 Try.underlying33) ⟨rfl, Has.cst, rfl, (hlc rfl), trivial⟩ rfl) ?_
  refine .done ⟨by kernel_rfl, fun a4 g W4 y4 zz4 hk hg hV hR hP => ?_⟩
  obtain ⟨e4, -, -⟩ := hV
  replace e2 := (hR 2 rfl).trans e2
  replace e4 := e4.q
  replace own_b2_2 := own_b2_2.ext hk
  replace kw := kw.x hk
  clear hR hk hg hP
  refine tail_store (b := b2_2) (o := 0) (v := (.agg #[(.int .u8 (2)), (.int .i64 (n)), (.string (⟨#[]⟩)), (.slice none 0 0), (.slice none 0 0)])) e2 e4 sz33 rfl own_b2_2 (lbr rfl) (all_cons rfl (all_cons rfl (all_cons rfl (all_cons rfl (all_cons rfl all_nil))))) (fun W5 hs own_b2_2 => ?_)
  have own_b2_2 : Own W5 b2_2 [(.int .u8 (2)), (.int .i64 (n)), (.string (⟨#[]⟩)), (.slice none 0 0), (.slice none 0 0)] 33 := own_b2_2
  replace kw := keeps_store kw hs lo_b2_2
  clear hs
  refine tail_nil (hK3 _ _ ?_)
  refine wp_ret ?_
  refine (show bodyPost Try.prog Try.f39 _ .ret _ _ from retC (v := (.agg #[(.int .u8 (2)), (.int .i64 (n)), (.string (⟨#[]⟩)), (.slice none 0 0), (.slice none 0 0)])) rfl zz4 e2 own_b2_2 agg33 sz33 rfl (fun h => by cases h) rfl ⟨_, rfl, kw, ?_⟩)
  exact rfl
end Go.Proofs.Ytnobijngkpflcaa
namespace Go.Eng
section
variable {P : Program} {ops : Array Oper} {S : Nat → Prop} {w0 : World} {a0 : Act} {Γ : Ctx}
variable {d : Option Tmp} {ty : TypeId} {pos : String} {af : Array Edge} {gd : Option (Nat × Bool)}
theorem sp_mkA0 {x y : Operand} {T E : TypeId} {n sz bytes lo : Nat} {z : Value} {X : BSet} (hT : P.underlying T = some (.slice E)) (hi : inf P E sz bytes) (hz : zeroOf P E = some z) (hx : Has S w0 a0 Γ x (Is (.int .i64 0))) (hy : Has S w0 a0 Γ y (Is (.int .i64 n)))
    (hn : n * sz ≤ 16777216) (hb : bytes * n ≤ 281474976710656) (hm : n ≤ maxLen) (hlo : lo ≤ w0.heap.size) : Spec P ops S w0 a0 Γ ⟨d, .makeSlice T x y, ty, pos, af, gd⟩ (IsArr w0 lo E sz X [] none) := fun a g W hk hg he => by
  have e1 : a.eval x = .int .i64 0 := hx.of_env hk hg he (by simp [Op.operands])
  have e2 : a.eval y = .int .i64 n := hy.of_env hk hg he (by simp [Op.operands])
  obtain ⟨i, z', h1, h2, h3, h4, h5⟩ := hi
  have ez : z' = z := by
    unfold zeroOf at hz; rw [h1] at hz; simp [h2] at hz; exact hz
  subst ez
  have hm' : n ≤ 9223372036854775807 := by simp only [maxLen] at hm; omega
  have hr := run_makeSlice (P := P) W T E i _ hT h1 h2 .i64 .i64 0 n (by omega) (by omega) (by rw [h3]; simpa using hn) (by rw [h4]; omega) (by omega)
  have hrun : (execOp a.eval ⟨d, .makeSlice T x y, ty, pos, af, gd⟩).run P W = .ok (.value (.slice (some ⟨W.heap.size, 0, none⟩) 0 n)) (W.alloc (.cells (madeCells z'.cells (n * sz)) E)) := by
    simp only [execOp, e1, e2, Sem.run_bind]
    rw [hr]; simp [h3]
  unfold OpRuns
  rw [hrun]
  have hnew : (W.alloc (.cells (madeCells z'.cells (n * sz)) E)).heap[W.heap.size]? = some (.cells (madeCells z'.cells (n * sz)) E (0, 0)) := by
    show (W.heap.push _)[W.heap.size]? = _
    simp
  refine ⟨ext_alloc _ _, some W.heap.size, ⟨rfl, [], ⟨by simp, .inr ⟨W.heap.size, n, madeCells z'.cells (n * sz), by simp, Nat.le_trans hlo hk.size, hnew, by simp, hm, by simp [madeCells], by simp⟩⟩, rfl⟩, fun b hb => .inr ?_⟩
  simp [blks] at hb; subst hb; exact hk.size
theorem sp_bslR {T E : TypeId} {n sz lo : Nat} {parts : Array (Nat × Operand)} {ds : List D} {X : BSet} {z : Value} (hT : P.underlying T = some (.slice E)) (hz : szOf P E = some sz) (hzero : zeroOf P E = some z) (hsz : 0 < sz) (hlen : n * sz ≤ 16777216)
    (hp : PartsD S w0 a0 Γ X 0 parts.toList ds) (hn : ds.length = n) (hw : ∀ e ∈ ds, width e = sz) (hlo : lo ≤ w0.heap.size) :
    Spec P ops S w0 a0 Γ ⟨d, .buildSlice T n parts, ty, pos, af, gd⟩ (IsArr w0 lo E sz X ds none) := fun a g W hk hg he => by
  obtain ⟨h1, h2⟩ := hp.out hk hg he _ _ _ (fun p hp => by simp [Op.operands]; exact ⟨p.1, by simpa using hp⟩)
  have hrow := fill_row (W := W) (X := fun b o => X b o ∧ Out g b) (sz := sz) ds ((parts.map fun x => (x.1, a.eval x.2)).toList) 0
  subst hn
  let cells : Array Value := (Array.range (ds.length * sz)).map (fun i => (if ds.length * sz = 0 then #[] else z.cells)[i % (if ds.length * sz = 0 then #[] else z.cells).size]!)
  obtain ⟨cs, hf, hr⟩ := hrow cells.toList (by simp [cells]) (by rw [← h1]; simp) (fun j hj => by
    obtain ⟨c, r1, r2⟩ := h2 j hj
    exact ⟨c, (rdc_width _ _ r1).trans (hw _ (List.getElem_mem hj)), r1, by simpa using r2⟩)
  simp only [Array.toArray_toList, Nat.zero_mul, List.take_zero, List.nil_append] at hf
  have hrun : (execOp a.eval ⟨d, .buildSlice T ds.length parts, ty, pos, af, gd⟩).run P W = .ok (.value (.slice (some ⟨W.heap.size, 0, none⟩) ds.length ds.length)) (W.alloc (.cells cs.toArray E)) := by
    have hm : (parts.map fun x => match x with | (i, x) => (i, a.eval x)) = (parts.map fun x => (x.1, a.eval x.2)) := rfl
    simp only [execOp, Instr.buildSlice, hm, Sem.run_bind, run_und hT, Result.andThen_ok, run_szOf hz]
    rw [show (2 : Nat) ^ 24 = 16777216 from rfl]
    rw [Sem.run_ite, if_neg (by omega)]
    by_cases h0 : ds.length * sz = 0
    · have hf' : Instr.fill (fun i => some (i * sz, sz)) ((Array.range (ds.length * sz)).map (fun x => (#[] : Array Value)[x % (#[] : Array Value).size]!)) (parts.map fun x => (x.1, a.eval x.2)).toList = some cs.toArray := by
        have h := hf; simp only [cells, if_pos h0] at h; exact h
      rw [if_pos h0]
      simp only [Sem.run_bind, Sem.run_pure, Result.andThen_ok, hf']
      rfl
    · have hf' : Instr.fill (fun i => some (i * sz, sz)) ((Array.range (ds.length * sz)).map (fun x => z.cells[x % z.cells.size]!)) (parts.map fun x => (x.1, a.eval x.2)).toList = some cs.toArray := by
        have h := hf; simp only [cells, if_neg h0] at h; exact h
      rw [if_neg h0]
      simp only [Sem.run_bind, run_zeroOf hzero, Sem.run_pure, Result.andThen_ok, hf']
      rfl
  unfold OpRuns
  rw [hrun]
  have hnew := own_alloc W cs E
  have hlen2 : ds.length ≤ 16777216 := Nat.le_trans (Nat.le_mul_of_pos_right _ hsz) hlen
  refine ⟨ext_alloc _ _, some W.heap.size, ⟨rfl, cs, ⟨hr.length, .inr ⟨W.heap.size, ds.length, cs.toArray, rfl, Nat.le_trans hlo hk.size, hnew, Nat.le_refl _, by simp only [maxLen]; omega, by simpa using hr.length, by rw [List.take_of_length_le (by simp [hr.length])]⟩⟩, ?_⟩, fun b hb => .inr ?_⟩
  · exact hr.move (by simp) fun b hb hlt => by
      have e := (ext_alloc W (.cells cs.toArray E)).block b hlt trivial
      exact ⟨e, by rw [e]; exact hb.1, fun hm => by simp [blks] at hm; omega⟩
  · simp [blks] at hb; subst hb; exact hk.size
end
end Go.Eng
namespace Go.Eng
theorem mayH_ok {l : List Hs} (h : mayH l = true) : 0 < l.length ∧ l.length ≤ 4 ∧ ∀ m ∈ l.map hsM, m.v.wt ≤ 1073741824 := by
  simp [mayH] at h
  obtain ⟨h1, h2, h3, h4⟩ := h
  refine ⟨by omega, h2, fun m hm => ?_⟩
  obtain ⟨x, hx, rfl⟩ := List.mem_map.1 hm
  have := h3 x hx
  simp [hsOk, digR] at this
  have hw := wt_eq (hsM x).v
  simp only [hsM, V.t, V.ns, V.xs, V.wts, wtN] at hw
  show V.wt (V.mk 3 0 x.hx [] []) ≤ _
  omega
theorem hshO_wt {l : List Hs} (h : mayH l = true) : (hshO l).wt ≤ 1000000 := by
  have h0 := h
  simp [mayH] at h
  obtain ⟨h1, h2, h3, h4⟩ := h
  have hq : ∀ m ∈ sortMb (l.map hsM), m.v.wt ≤ 129 ∧ m.nm.size ≤ 64 := sortMb_all _ fun m hm => by
    obtain ⟨x, hx, rfl⟩ := List.mem_map.1 hm
    have hk := h3 x hx
    simp only [hsOk, Bool.and_eq_true] at hk
    have hd := hk.2
    simp [digR] at hd
    have hr := hk.1
    unfold roleB at hr
    split at hr
    · cases hr
    · rename_i hno
      have hw := wt_eq (hsM x).v
      simp only [hsM, V.t, V.ns, V.xs, V.wts, wtN] at hw ⊢
      exact ⟨by omega, by omega⟩
  have hl : (sortMb (l.map hsM)).length ≤ 4 := by rw [sortMb_len]; simpa using h2
  unfold hshO objM
  generalize sortMb (l.map hsM) = L at hq hl
  split
  · show V.wt (V.mk 0 0 ⟨#[]⟩ [] []) ≤ _; decide
  · rw [wt_eq]
    have key : ∀ L : List Mb, (∀ m ∈ L, m.v.wt ≤ 129 ∧ m.nm.size ≤ 64) → wtN (L.map Mb.nm) ≤ 65 * L.length ∧ V.wts (L.map Mb.v) ≤ 129 * L.length := by
      intro L
      induction L with
      | nil => intro _; simp [wtN, V.wts]
      | cons m L ih =>
        intro hL
        have h1 := ih fun x hx => hL x (List.mem_cons_of_mem _ hx)
        have h2 := hL m List.mem_cons_self
        simp only [List.map_cons, wtN, V.wts, List.length_cons]
        omega
    have := key L hq
    show 1 + (ByteArray.size ⟨#[]⟩) + wtN (L.map Mb.nm) + V.wts (L.map Mb.v) ≤ _
    have h0 : ByteArray.size ⟨#[]⟩ = 0 := rfl
    rw [h0]; omega
theorem recL_ok {r : Rc} (hm : mayH r.hs = true) (hc : r.cu.wt ≤ 1073741824) : 0 < (recL r).length ∧ (recL r).length ≤ 12 ∧ ∀ m ∈ recL r, m.v.wt ≤ 1073741824 := by
  have h1 := hshO_wt hm
  have h2 : (numVv r.ln).wt = 1 := rfl
  unfold recL
  split
  · refine ⟨by simp, by simp, fun m hm => ?_⟩
    simp at hm
    rcases hm with rfl | rfl
    · show (hshO r.hs).wt ≤ _; omega
    · show (numVv r.ln).wt ≤ _; omega
  · refine ⟨by simp, by simp, fun m hm => ?_⟩
    simp at hm
    rcases hm with rfl | rfl | rfl
    · show (hshO r.hs).wt ≤ _; omega
    · show (numVv r.ln).wt ≤ _; omega
    · exact hc
theorem recO_none {r : Rc} (h : noneB r.cu = true) : recO r = V.mk 5 0 ⟨#[]⟩ [sHashes, sLength] [hshO r.hs, numVv r.ln] := by
  unfold recO recL; rw [if_pos h]; kernel_rfl
theorem recO_some {r : Rc} (h : noneB r.cu = false) : recO r = V.mk 5 0 ⟨#[]⟩ [sCustom, sHashes, sLength] [r.cu, hshO r.hs, numVv r.ln] := by
  unfold recO recL; rw [if_neg (by simp [h])]; kernel_rfl
theorem recO_wt {r : Rc} (hm : mayH r.hs = true) (hc : r.cu.wt ≤ 1000000000) : (recO r).wt ≤ 1073741824 := by
  have h1 := hshO_wt hm
  have h2 : (numVv r.ln).wt = 1 := rfl
  cases h : noneB r.cu with
  | true =>
    rw [recO_none h, wt_eq]
    simp only [V.t, V.ns, V.xs, V.wts]
    have : wtN [sHashes, sLength] = 14 := by kernel_rfl
    have h0 : ByteArray.size ⟨#[]⟩ = 0 := rfl
    omega
  | false =>
    rw [recO_some h, wt_eq]
    simp only [V.t, V.ns, V.xs, V.wts]
    have : wtN [sCustom, sHashes, sLength] = 21 := by kernel_rfl
    have h0 : ByteArray.size ⟨#[]⟩ = 0 := rfl
    omega
end Go.Eng
namespace Go.Proofs.Ytnobijngkpflcaa
open Go.Eng
set_option maxRecDepth 100000 in
theorem hashesObject_ok (l : List Hs) (hm : mayH l = true) (w : World) (S : BSet) (v : Value) (hv : Rd w S (hssD l) v) : Calls Try.prog 150 #[v] w (Ret w fun u W => Rd W (Fr w) (V.d (hshO l)) u) := by
  obtain ⟨hn0, hn4, hnw⟩ := mayH_ok hm
  obtain ⟨va, vc, ev, D_v⟩ := rdHss_out (rd_arg hv)
  subst ev
  refine enter Try.func150 rfl Try.ntmps150 (lbr rfl) fun a0 y0 zz0 harg => ?_
  have e0 : sl a0 0 = (.slice va (l.length) vc) := harg 0 (lbr rfl)
  have kw := Keeps.refl All w
  clear harg
  refine wp_seq_k fun K1 hK1 => ?_
  refine rg mixed y0 zz0 ?_
  refine .alloc z33 ?_
  refine .done ⟨by kernel_rfl, fun a2 g W2 y2 zz2 hk hg hV hR hP => ?_⟩
  obtain ⟨⟨b2_2, e2, hb2, own_b2_2⟩, -⟩ := hV
  have lo_b2_2 : w.heap.size ≤ b2_2 := Nat.le_trans kw.size (hg.lo _ _ hb2)
  have own_b2_2 : Own W2 b2_2 [(.int .u8 (0)), (.int .i64 (0)), (.string (⟨#[]⟩)), (.slice none 0 0), (.slice none 0 0)] 33 := own_b2_2
  replace e0 := (hR 0 rfl).trans e0
  replace D_v := sa_more D_v hk [b2_2] (in_cons (hg.lo _ _ hb2) in_nil)
  replace kw := kw.x hk
  clear hR hk hg hP hb2
  refine tail_nil (hK1 _ _ ?_)
  refine wp_seq_k fun K3 hK3 => ?_
  refine rg mixed y2 zz2 ?_
  refine .i (sp_move (hbs rfl e0)) ?_
  refine .i (sp_lenL Try.underlying85 ((hlc rfl).dat D_v sub_all)) ?_
  refine .op (φ := IsArr W2 w.heap.size 67 6 (SF w [b2_2]) ([]) none) st_arr (sp_mkA0 Try.underlying82 inf67 z67 Has.cst (hlc rfl) (by omega) (by omega) (by simp only [maxLen]; omega) kw.size) ?_
  refine .done ⟨by kernel_rfl, fun a4 g W4 y4 zz4 hk hg hV hR hP => ?_⟩
  obtain ⟨e10, -, -, -⟩ := hV
  replace e0 := (hR 0 rfl).trans e0
  replace e2 := (hR 2 rfl).trans e2
  obtain ⟨v10_4, ev⟩ : ∃ v, sl a4 10 = v := ⟨_, rfl⟩
  rw [ev] at e10
  obtain ⟨hd10_4, A_10_4, hf10_4⟩ := e10
  have e10 := ev; clear ev
  replace hf10_4 := row_new hf10_4
  obtain ⟨v10_4a, v10_4n, v10_4c, ev⟩ := arr_sl A_10_4; subst ev
  replace A_10_4 : Arr W4 w.heap.size 67 6 (SF w (blks hd10_4 ++ (b2_2 :: []))) (List.map Mb.d ([])) (.slice v10_4a v10_4n v10_4c) hd10_4 := arrF_new A_10_4 (M' := (blks hd10_4 ++ (b2_2 :: []))) (fun b hb => (List.mem_append.1 hb).symm)
  have nb_b2_2_4 : b2_2 ∉ blks hd10_4 := fun hm => absurd (hf10_4 _ hm) (Nat.not_le.2 own_b2_2.lt)
  replace D_v : Rd W4 (SA w S (blks hd10_4 ++ (b2_2 :: []))) (hssD (l)) (.slice va (l.length) vc) := sa_more D_v hk (blks hd10_4) hf10_4
  replace own_b2_2 := own_b2_2.ext hk
  replace kw := kw.x hk
  clear hR hk hg hP hf10_4
  refine tail_assign (v := (.slice v10_4a v10_4n v10_4c)) e10 (by rw [y4]; exact Nat.le_of_ble_eq_true rfl) (fun a5 y5 zz5 e3 hr => ?_)
  replace y5 := y5.trans y4; replace zz5 := zz5.trans zz4
  replace e0 := (hr 0 (by decide)).trans e0
  replace e2 := (hr 2 (by decide)).trans e2
  replace e10 := (hr 10 (by decide)).trans e10
  clear hr
  refine tail_nil (hK3 _ _ ?_)
  refine wp_seq_k fun K6 hK6 => ?_
  refine wp_seq_k fun K7 hK7 => ?_
  refine rg mixed y5 zz5 ?_
  refine .i (sp_move (hbs rfl e0)) ?_
  refine .i (sp_lenL Try.underlying85 ((hlc rfl).dat D_v sub_all)) ?_
  refine .i (sp_move Has.cst) ?_
  refine .done ⟨by kernel_rfl, fun a8 g W8 y8 zz8 hk hg hV hR hP => ?_⟩
  obtain ⟨e13, e12, e11, -⟩ := hV
  replace e2 := (hR 2 rfl).trans e2
  replace e3 := (hR 3 rfl).trans e3
  replace A_10_4 := A_10_4.ext hk
  replace D_v := D_v.ext hk
  have e11 : sl a8 11 = (.slice va (l.length) vc) := e11
  have e12 : sl a8 12 = (.int .i64 (l.length)) := e12
  have e13 : sl a8 13 = (.int .i64 (0)) := e13
  replace own_b2_2 := own_b2_2.ext hk
  replace kw := kw.x hk
  clear hR hk hg hP
  refine tail_nil (hK7 _ _ ?_)
  refine wp_block ?_
  refine wp_for (l.length) (fun k a W => ∃ (vs3_9 : Value), ∃ (hds3_9 : Option Nat), a.tmps.size = 33 ∧ a.defers = [] ∧ Keeps All w W ∧ sl a 2 = (.pointer (some ⟨b2_2, 0, none⟩)) ∧ sl a 3 = vs3_9 ∧ sl a 11 = (.slice va (l.length) vc) ∧ sl a 12 = (.int .i64 (l.length)) ∧ sl a 13 = (.int .i64 ((k : Nat))) ∧ Own W b2_2 [(.int .u8 (0)), (.int .i64 (0)), (.string (⟨#[]⟩)), (.slice none 0 0), (.slice none 0 0)] 33 ∧ Rd W (SA w S (blks hds3_9 ++ (b2_2 :: []))) (hssD (l)) (.slice va (l.length) vc) ∧ Arr W w.heap.size 67 6 (SF w (blks hds3_9 ++ (b2_2 :: []))) (List.map Mb.d (List.map hsM (l.take k))) vs3_9 hds3_9 ∧ b2_2 ∉ blks hds3_9) ⟨(.slice v10_4a v10_4n v10_4c), hd10_4, y8, zz8, kw, e2, e3, e11, e12, (e13.trans (congrArg (Value.int .i64) (rfl))), own_b2_2, D_v, A_10_4, nb_b2_2_4⟩ ?_
  clear kw e2 e3 e11 e12 e13 own_b2_2 D_v A_10_4
  rintro k a9 W9 hkk ⟨vs3_9, hds3_9, y9, zz9, kw, e2, e3, e11, e12, e13, own_b2_2, D_v, As3_9, nb_b2_2_ro10_4_9⟩
  refine wp_seq_k fun K10 hK10 => ?_
  refine rg mixed y9 zz9 ?_
  refine .i (sp_lss (hbs rfl e13) (hbs rfl e12)) ?_
  refine .done ⟨by kernel_rfl, fun a11 g W11 y11 zz11 hk hg hV hR hP => ?_⟩
  obtain ⟨e14, -⟩ := hV
  replace e2 := (hR 2 rfl).trans e2
  replace e3 := (hR 3 rfl).trans e3
  replace e11 := (hR 11 rfl).trans e11
  replace e12 := (hR 12 rfl).trans e12
  replace e13 := (hR 13 rfl).trans e13
  replace As3_9 := As3_9.ext hk
  replace D_v := D_v.ext hk
  replace e14 := e14.q
  replace own_b2_2 := own_b2_2.ext hk
  replace kw := kw.x hk
  clear hR hk hg hP
  refine tail_nil (hK10 _ _ ?_)
  refine wp_seq_k fun K12 hK12 => ?_
  refine wp_cond_split e14 (fun hc => ?_) (fun hc => ?_)
  ·
   have hlt : k < l.length := by simpa using hc
   refine wp_skip (hK12 _ _ ?_)
   refine wp_seq_k fun K13 hK13 => ?_
   refine wp_block ?_
   refine wp_seq_k fun K14 hK14 => ?_
   refine rg mixed y11 zz11 ?_
   refine .rf (X := SA w S (blks hds3_9 ++ (b2_2 :: []))) (e := Hs.d (l[k]'hlt)) (sp_indexL (i := k) ((hbs rfl e11).dat D_v sub_all) (hbs rfl e13) Try.underlying85 sz114 rfl hlt) ?_
   refine .da (X := SA w S (blks hds3_9 ++ (b2_2 :: []))) (e := Hs.d (l[k]'hlt)) (sp_loadR (hlc rfl) agg114 sz114 (width_Hs _)) ?_
   refine .alloc z114 ?_
   refine .done ⟨by kernel_rfl, fun a15 g W15 y15 zz15 hk hg hV hR hP => ?_⟩
   obtain ⟨⟨b5_15, e5, hb5, own_b5_15⟩, e16, -, -⟩ := hV
   have lo_b5_15 : w.heap.size ≤ b5_15 := Nat.le_trans kw.size (hg.lo _ _ hb5)
   have ne_b2_2_b5_15 : b2_2 ≠ b5_15 := Nat.ne_of_lt (Nat.lt_of_lt_of_le own_b2_2.lt (hg.lo _ _ hb5))
   have own_b5_15 : Own W15 b5_15 [(.string (⟨#[]⟩)), (.string (⟨#[]⟩))] 114 := own_b5_15
   replace e2 := (hR 2 rfl).trans e2
   replace e3 := (hR 3 rfl).trans e3
   replace e11 := (hR 11 rfl).trans e11
   replace e12 := (hR 12 rfl).trans e12
   replace e13 := (hR 13 rfl).trans e13
   have hMx : ∀ b ∈ (blks hds3_9 ++ (b2_2 :: [])), b < W11.heap.size := (in_app As3_9.lt (in_cons own_b2_2.lt in_nil))
   have nb_b5_15_ro10_4 : b5_15 ∉ blks hds3_9 := nb_lt As3_9.lt (hg.lo _ _ hb5)
   replace As3_9 : Arr W15 w.heap.size 67 6 (SF w (b5_15 :: (blks hds3_9 ++ (b2_2 :: [])))) (List.map Mb.d (List.map hsM (l.take k))) vs3_9 hds3_9 := arrF_more As3_9 hk [b5_15] (in_cons (hg.lo _ _ hb5) in_nil)
   replace D_v : Rd W15 (SA w S (b5_15 :: (blks hds3_9 ++ (b2_2 :: [])))) (hssD (l)) (.slice va (l.length) vc) := sa_more D_v hk [b5_15] (in_cons (hg.lo _ _ hb5) in_nil)
   obtain ⟨v16_15, ev⟩ : ∃ v, sl a15 16 = v := ⟨_, rfl⟩
   rw [ev] at e16
   have D_v16_15 : Rd W15 (SA w S (b5_15 :: (blks hds3_9 ++ (b2_2 :: [])))) (Hs.d (l[k]'hlt)) v16_15 := sa_end e16 hk [b5_15] (in_cons ⟨_, hb5⟩ in_nil)
   replace e16 := ev; clear ev
   obtain ⟨ev, hb_v16_15_0, hb_v16_15_1⟩ := rdHs_out D_v16_15
   subst ev; clear D_v16_15
   replace own_b2_2 := own_b2_2.ext hk
   replace kw := kw.x hk
   clear hR hk hg hP hb5
   refine tail_store (b := b5_15) (o := 0) (v := (.agg #[(.string ((l[k]'hlt).al)), (.string ((l[k]'hlt).hx))])) e5 e16 sz114 rfl own_b5_15 (lbr rfl) (all_cons rfl (all_cons rfl all_nil)) (fun W16 hs own_b5_15 => ?_)
   have own_b5_15 : Own W16 b5_15 [(.string ((l[k]'hlt).al)), (.string ((l[k]'hlt).hx))] 114 := own_b5_15
   replace own_b2_2 := own_store own_b2_2 hs ne_b2_2_b5_15
   replace D_v := sa_store D_v hs (by simp)
   replace As3_9 := arrF_store As3_9 hs (by simp) nb_b5_15_ro10_4
   replace kw := keeps_store kw hs lo_b5_15
   clear hs
   refine tail_nil (hK14 _ _ ?_)
   refine wp_reg (fun k => k ∉ blks hds3_9) (Ψ := fun W => Arr W w.heap.size 67 6 (SF w (b5_15 :: (blks hds3_9 ++ (b2_2 :: [])))) (List.map Mb.d (List.map hsM (l.take k))) vs3_9 hds3_9) mixed y15 zz15 (fun W W' k h => h.ext k) As3_9 ?_
   refine .i (sp_move (hbs rfl e3)) ?_
   refine .i (fo 0 (hbs rfl e5) Try.underlying114 rfl sz9 rfl) ?_
   refine .i (lo1 (hlc rfl) own_b5_15 nb_b5_15_ro10_4 agg9 sz9 rfl) ?_
   refine .i (fo 1 (hbs rfl e5) Try.underlying114 rfl sz9 rfl) ?_
   refine .i (lo1 (hlc rfl) own_b5_15 nb_b5_15_ro10_4 agg9 sz9 rfl) ?_
   refine .i (v := (.agg #[(.int .u8 (3)), (.int .i64 (0)), (.string ((l[k]'hlt).hx)), (.slice none 0 0), (.slice none 0 0)])) (sp_call1 (φ1 := Is (.string ((l[k]'hlt).hx))) ent37 (hlc rfl) (fun g u1 W hk hgk h1 => by have h1 : u1 = _ := h1; subst u1; exact pkText_ok ((l[k]'hlt).hx) W)) ?_
   refine .i (v := (.agg #[(.string ((l[k]'hlt).al)), (.int .u8 (3)), (.int .i64 (0)), (.string ((l[k]'hlt).hx)), (.slice none 0 0), (.slice none 0 0)])) (sp_build (vs := [(0, (.string ((l[k]'hlt).al))), (1, (.agg #[(.int .u8 (3)), (.int .i64 (0)), (.string ((l[k]'hlt).hx)), (.slice none 0 0), (.slice none 0 0)]))]) Try.underlying67 z67 (pl67 Try.underlying67) ⟨rfl, (hlc rfl), rfl, (hlc rfl), trivial⟩ (by kernel_rfl)) ?_
   refine .op (φ := IsD (SF w (b5_15 :: (blks hds3_9 ++ (b2_2 :: [])))) (mbsD ([Mb.mk ((l[k]'hlt).al) (V.mk (3) (0) ((l[k]'hlt).hx) ([]) ([]))]))) (st_d (sub_nbF (fun b hb => List.mem_cons_of_mem _ (List.mem_append_left _ hb)))) (sp_bsl (ds := [Mb.d (Mb.mk ((l[k]'hlt).al) (V.mk (3) (0) ((l[k]'hlt).hx) ([]) ([])))]) Try.underlying82 sz67 z67 (lbr rfl) (lbr rfl) ⟨rfl, ((hlc rfl).dat (rdMb_mk hb_v16_15_0 (rdV_mk (rdHss_at D_v hlt).2 (rd_nil _) (rd_nil _) : Rd W16 (SF w (b5_15 :: (blks hds3_9 ++ (b2_2 :: [])))) (V.d (V.mk (3) (0) ((l[k]'hlt).hx) ([]) ([]))) _) : Rd W16 (SF w (b5_15 :: (blks hds3_9 ++ (b2_2 :: [])))) (Mb.d (Mb.mk ((l[k]'hlt).al) (V.mk (3) (0) ((l[k]'hlt).hx) ([]) ([])))) _) (sub_nbF (fun b hb => List.mem_cons_of_mem _ (List.mem_append_left _ hb)))), trivial⟩ rfl (by intro e he; simp at he; rcases he with rfl <;> exact width_Mb _) (fr_sf kw (in_cons own_b5_15.lt (in_app As3_9.lt (in_cons own_b2_2.lt in_nil))))) ?_
   refine .appB (ds := List.map Mb.d (List.map hsM (l.take k))) (es := [Mb.d (Mb.mk ((l[k]'hlt).al) (V.mk (3) (0) ((l[k]'hlt).hx) ([]) ([])))]) (X := SF w (b5_15 :: (blks hds3_9 ++ (b2_2 :: [])))) Try.underlying82 inf67 (lbr rfl) (hlc rfl) (hlc rfl) (sub_nbF (fun b hb => List.mem_cons_of_mem _ (List.mem_append_left _ hb))) (by simp [maxLen]; omega) (by simp; omega) kw.size ?_
   refine .done ⟨by kernel_rfl, fun a17 g W17 y17 zz17 hk hg hV hR hP => ?_⟩
   obtain ⟨e25, -, -, -, -, -, -, -, -, -⟩ := hV
   replace e2 := (hR 2 rfl).trans e2
   replace e3 := (hR 3 rfl).trans e3
   replace e11 := (hR 11 rfl).trans e11
   replace e12 := (hR 12 rfl).trans e12
   replace e13 := (hR 13 rfl).trans e13
   obtain ⟨v25_17, ev⟩ : ∃ v, sl a17 25 = v := ⟨_, rfl⟩
   rw [ev] at e25
   obtain ⟨hd25_17, A_25_17, hf25_17⟩ := e25
   have e25 := ev; clear ev
   obtain ⟨v25_17a, v25_17n, v25_17c, ev⟩ := arr_sl A_25_17; subst ev
   replace A_25_17 := arrF_new (M' := (b5_15 :: (blks hd25_17 ++ (b2_2 :: [])))) A_25_17 (rep_cons (rep_app (rep_q fun _ h => h) (rep_cons rep_nil)))
   replace A_25_17 : Arr W17 w.heap.size 67 6 (SF w (b5_15 :: (blks hd25_17 ++ (b2_2 :: [])))) (List.map Mb.d ((List.map hsM (l.take k)) ++ [Mb.mk ((l[k]'hlt).al) (V.mk (3) (0) ((l[k]'hlt).hx) ([]) ([]))])) (.slice v25_17a v25_17n v25_17c) hd25_17 := by first | exact A_25_17 | (rw [List.map_append]; exact A_25_17)
   have nb_b2_2_17 : b2_2 ∉ blks hd25_17 := nb_new nb_b2_2_ro10_4_9 own_b2_2.lt hf25_17
   have nb_b5_15_17 : b5_15 ∉ blks hd25_17 := nb_new nb_b5_15_ro10_4 own_b5_15.lt hf25_17
   replace D_v := sa_app (M' := (b5_15 :: (blks hd25_17 ++ (b2_2 :: [])))) D_v hk (fun b hb => List.mem_cons_of_mem _ (List.mem_append_left _ hb)) (rep_cons (rep_app hf25_17 (rep_cons rep_nil)))
   replace own_b2_2 := own_app own_b2_2 hk nb_b2_2_ro10_4_9
   replace own_b5_15 := own_app own_b5_15 hk nb_b5_15_ro10_4
   replace kw := keeps_app kw hk As3_9.ge
   clear hR hk hg hP hf25_17 As3_9
   refine tail_assign (v := (.slice v25_17a v25_17n v25_17c)) e25 (by rw [y17]; exact Nat.le_of_ble_eq_true rfl) (fun a18 y18 zz18 e3 hr => ?_)
   replace y18 := y18.trans y17; replace zz18 := zz18.trans zz17
   replace e2 := (hr 2 (by decide)).trans e2
   replace e11 := (hr 11 (by decide)).trans e11
   replace e12 := (hr 12 (by decide)).trans e12
   replace e13 := (hr 13 (by decide)).trans e13
   replace e25 := (hr 25 (by decide)).trans e25
   clear hr
   refine tail_nil (hK13 _ _ ?_)
   refine rg mixed y18 zz18 ?_
   refine .i (sp_add (hbs rfl e13) Has.cst (i64_in (by omega))) ?_
   refine .i (sp_move (hlc rfl)) ?_
   refine .done ⟨by kernel_rfl, fun a19 g W19 y19 zz19 hk hg hV hR hP => ?_⟩
   obtain ⟨e13, -, -⟩ := hV
   replace e2 := (hR 2 rfl).trans e2
   replace e3 := (hR 3 rfl).trans e3
   replace e11 := (hR 11 rfl).trans e11
   replace e12 := (hR 12 rfl).trans e12
   replace A_25_17 := A_25_17.ext hk
   replace D_v := D_v.ext hk
   replace e13 := e13.q
   replace own_b2_2 := own_b2_2.ext hk
   replace own_b5_15 := own_b5_15.ext hk
   replace kw := kw.x hk
   clear hR hk hg hP
   rw [show (List.map hsM (l.take k)) ++ [Mb.mk ((l[k]'hlt).al) (V.mk (3) (0) ((l[k]'hlt).hx) ([]) ([]))] = List.map hsM (l.take (k + 1)) by rw [List.take_succ_eq_append_getElem hlt, List.map_append]; rfl] at A_25_17
   exact tail_nil ⟨hlt, (.slice v25_17a v25_17n v25_17c), hd25_17, y19, zz19, kw, e2, e3, e11, e12, (e13.trans (congrArg (Value.int .i64) (by simp))), own_b2_2, (sa_less D_v (ls_skip (ls_keepA (ls_keep ls_nil)))), (arrF_less A_25_17 (ls_skip (ls_keepA (ls_keep ls_nil)))), nb_b2_2_17⟩
  ·
   have hge0 : ¬ k < l.length := by simpa using hc
   have hge : k = l.length := by omega
   rw [show List.map hsM (l.take k) = List.map hsM l by rw [hge, List.take_length]] at As3_9
   have D_vs3_9 : Rd W11 (SF w [b2_2]) (mbsD (List.map hsM l)) vs3_9 := arrF_rd As3_9 (ls_skipA (ls_keep ls_nil)) (nin_cons nb_b2_2_ro10_4_9 nin_nil)
   obtain ⟨vs3_9a, vs3_9c, ev, D2⟩ := rdMbs_out D_vs3_9
   subst ev; replace D_vs3_9 := D2; clear D2
   replace D_v := sa_less (M' := [b2_2]) D_v (ls_skipA (ls_keep ls_nil))
   refine wp_exit (hK6 _ _ ?_)
   refine wp_seq_k fun K20 hK20 => ?_
   refine rg mixed y11 zz11 ?_
   refine .i (sp_move (hbs rfl e3)) ?_
   refine .op (φ := IsT (IsD (Fr W11) (V.d (objM (List.map hsM l)))) (Is (.int .i64 (objE (List.map hsM l))))) (st_t (st_d sub_all) (st_is _)) (sp_call1 (φ1 := IsD (SF w [b2_2]) (mbsD (List.map hsM l))) ent38 ((hlc rfl).dat D_vs3_9 sub_all) (fun g u1 W hk hgk h1 => (ObjectOf_ok (List.map hsM l) (by simpa using hn0) (by simp; omega) hnw W _ _ (fun b o h => h.1.2.1) h1).mono (fun _ _ ⟨v, h1, h2, r1, h3, h4⟩ => ⟨v, h1, h2, r1, _, h3, fresh_d hk hgk h4, rfl⟩))) ?_
   refine .op (φ := IsT (IsD (Fr W11) (V.d (objM (List.map hsM l)))) (Is (.int .i64 (objE (List.map hsM l))))) (st_t (st_d sub_all) (st_is _)) (sp_move (hlc rfl)) ?_
   refine .da (X := Fr W11) (e := V.d (objM (List.map hsM l))) (sp_ext2 (hlc rfl) rfl) ?_
   refine .i (v := (.int .i64 (objE (List.map hsM l)))) (sp_ext2' (hlc rfl) rfl) ?_
   refine .alloc z33 ?_
   refine .done ⟨by kernel_rfl, fun a21 g W21 y21 zz21 hk hg hV hR hP => ?_⟩
   obtain ⟨⟨b6_21, e6, hb6, own_b6_21⟩, e31, e30, -, -, -, -⟩ := hV
   have lo_b6_21 : w.heap.size ≤ b6_21 := Nat.le_trans kw.size (hg.lo _ _ hb6)
   have ne_b2_2_b6_21 : b2_2 ≠ b6_21 := Nat.ne_of_lt (Nat.lt_of_lt_of_le own_b2_2.lt (hg.lo _ _ hb6))
   have own_b6_21 : Own W21 b6_21 [(.int .u8 (0)), (.int .i64 (0)), (.string (⟨#[]⟩)), (.slice none 0 0), (.slice none 0 0)] 33 := own_b6_21
   replace e2 := (hR 2 rfl).trans e2
   replace D_v := sa_more D_v hk [b6_21] (in_cons (hg.lo _ _ hb6) in_nil)
   replace D_vs3_9 := sf_more D_vs3_9 hk [b6_21] (in_cons (hg.lo _ _ hb6) in_nil)
   obtain ⟨v30_21, ev⟩ : ∃ v, sl a21 30 = v := ⟨_, rfl⟩
   rw [ev] at e30
   have D_v30_21 : Rd W21 (SF w [b6_21, b2_2]) (V.d (objM (List.map hsM l))) v30_21 := fr_end (M := [b2_2]) e30 kw [b6_21] (in_cons ⟨_, hb6⟩ in_nil) (in_cons own_b2_2.lt in_nil)
   replace e30 := ev; clear ev
   obtain ⟨cn30_21a, cn30_21c, ci30_21a, ci30_21c, ev, ht_v30_21, D_cn30_21, D_ci30_21⟩ := rdV_out D_v30_21
   subst ev; clear D_v30_21
   have e31 : sl a21 31 = (.int .i64 (objE (List.map hsM l))) := e31
   replace own_b2_2 := own_b2_2.ext hk
   replace kw := kw.x hk
   clear hR hk hg hP hb6
   refine tail_store (b := b6_21) (o := 0) (v := (.agg #[(.int .u8 ((objM (List.map hsM l)).k)), (.int .i64 ((objM (List.map hsM l)).n)), (.string ((objM (List.map hsM l)).t)), (.slice cn30_21a (((objM (List.map hsM l)).ns).length) cn30_21c), (.slice ci30_21a (((objM (List.map hsM l)).xs).length) ci30_21c)])) e6 e30 sz33 rfl own_b6_21 (lbr rfl) (all_cons rfl (all_cons rfl (all_cons rfl (all_cons rfl (all_cons rfl all_nil))))) (fun W22 hs own_b6_21 => ?_)
   have own_b6_21 : Own W22 b6_21 [(.int .u8 ((objM (List.map hsM l)).k)), (.int .i64 ((objM (List.map hsM l)).n)), (.string ((objM (List.map hsM l)).t)), (.slice cn30_21a (((objM (List.map hsM l)).ns).length) cn30_21c), (.slice ci30_21a (((objM (List.map hsM l)).xs).length) ci30_21c)] 33 := own_b6_21
   replace own_b2_2 := own_store own_b2_2 hs ne_b2_2_b6_21
   replace D_v := sa_store D_v hs (by simp)
   replace D_vs3_9 := sf_store D_vs3_9 hs (by simp)
   replace D_cn30_21 := sf_store D_cn30_21 hs (by simp)
   replace D_ci30_21 := sf_store D_ci30_21 hs (by simp)
   replace kw := keeps_store kw hs lo_b6_21
   clear hs
   refine tail_assign (v := (.int .i64 (objE (List.map hsM l)))) e31 (by rw [y21]; exact Nat.le_of_ble_eq_true rfl) (fun a23 y23 zz23 e7 hr => ?_)
   replace y23 := y23.trans y21; replace zz23 := zz23.trans zz21
   replace e2 := (hr 2 (by decide)).trans e2
   replace e6 := (hr 6 (by decide)).trans e6
   replace e30 := (hr 30 (by decide)).trans e30
   replace e31 := (hr 31 (by decide)).trans e31
   clear hr
   refine tail_nil (hK20 _ _ ?_)
   refine wp_seq_k fun K24 hK24 => ?_
   refine rg mixed y23 zz23 ?_
   refine .i (v := (.agg #[(.int .u8 ((objM (List.map hsM l)).k)), (.int .i64 ((objM (List.map hsM l)).n)), (.string ((objM (List.map hsM l)).t)), (.slice cn30_21a (((objM (List.map hsM l)).ns).length) cn30_21c), (.slice ci30_21a (((objM (List.map hsM l)).xs).length) ci30_21c)])) (loA (hbs rfl e6) own_b6_21 trivial agg33 sz33 rfl rfl) ?_
   refine .done ⟨by kernel_rfl, fun a25 g W25 y25 zz25 hk hg hV hR hP => ?_⟩
   obtain ⟨e32, -⟩ := hV
   replace e2 := (hR 2 rfl).trans e2
   replace D_cn30_21 := D_cn30_21.ext hk
   replace D_ci30_21 := D_ci30_21.ext hk
   replace e32 := e32.q
   replace own_b2_2 := own_b2_2.ext hk
   replace own_b6_21 := own_b6_21.ext hk
   replace kw := kw.x hk
   clear hR hk hg hP
   refine tail_store (b := b2_2) (o := 0) (v := (.agg #[(.int .u8 ((objM (List.map hsM l)).k)), (.int .i64 ((objM (List.map hsM l)).n)), (.string ((objM (List.map hsM l)).t)), (.slice cn30_21a (((objM (List.map hsM l)).ns).length) cn30_21c), (.slice ci30_21a (((objM (List.map hsM l)).xs).length) ci30_21c)])) e2 e32 sz33 rfl own_b2_2 (lbr rfl) (all_cons rfl (all_cons rfl (all_cons rfl (all_cons rfl (all_cons rfl all_nil))))) (fun W26 hs own_b2_2 => ?_)
   have own_b2_2 : Own W26 b2_2 [(.int .u8 ((objM (List.map hsM l)).k)), (.int .i64 ((objM (List.map hsM l)).n)), (.string ((objM (List.map hsM l)).t)), (.slice cn30_21a (((objM (List.map hsM l)).ns).length) cn30_21c), (.slice ci30_21a (((objM (List.map hsM l)).xs).length) ci30_21c)] 33 := own_b2_2
   replace own_b6_21 := own_store own_b6_21 hs ne_b2_2_b6_21.symm
   replace D_cn30_21 := sf_store D_cn30_21 hs (by simp)
   replace D_ci30_21 := sf_store D_ci30_21 hs (by simp)
   replace kw := keeps_store kw hs lo_b2_2
   clear hs
   refine tail_nil (hK24 _ _ ?_)
   refine wp_ret ?_
   refine (show bodyPost Try.prog Try.f150 _ .ret _ _ from retC (v := (.agg #[(.int .u8 ((objM (List.map hsM l)).k)), (.int .i64 ((objM (List.map hsM l)).n)), (.string ((objM (List.map hsM l)).t)), (.slice cn30_21a (((objM (List.map hsM l)).ns).length) cn30_21c), (.slice ci30_21a (((objM (List.map hsM l)).xs).length) ci30_21c)])) rfl zz25 e2 own_b2_2 agg33 sz33 rfl (fun h => by cases h) rfl ⟨_, rfl, kw, ?_⟩)
   exact sf_fr (rdV_in (x := (objM (List.map hsM l))) ht_v30_21 D_cn30_21 D_ci30_21 : Rd W26 (SF w [b6_21, b2_2]) (V.d ((objM (List.map hsM l)))) _)
set_option maxRecDepth 100000 in
theorem object21_ok (r : Rc) (hmh : mayH r.hs = true) (hcu : r.cu.wt ≤ 1000000000) (w : World) (S : BSet) (v : Value) (hS : ∀ b o, S b o → Cln o) (hv : Rd w S r.d v) : Calls Try.prog 132 #[v] w (Ret w fun u W => Rd W (Fr w) (V.d (recO r)) u) := by
  have hobk := recL_ok hmh (Nat.le_trans hcu (by decide))
  obtain ⟨p0_1a, p0_1c, p0_5a, p0_5c, p0_6a, p0_6c, ev, hb_p0_4, D_p0_1, D_p0_5, D_p0_6⟩ := rdRc_out (rd_arg hv)
  subst ev
  refine enter Try.func132 rfl Try.ntmps132 (lbr rfl) fun a0 y0 zz0 harg => ?_
  have e0 : sl a0 0 = (.agg #[(.int .i64 (r.ln)), (.slice p0_1a (r.hs.length) p0_1c), (.int .u8 (r.cu.k)), (.int .i64 (r.cu.n)), (.string (r.cu.t)), (.slice p0_5a (r.cu.ns.length) p0_5c), (.slice p0_6a (r.cu.xs.length) p0_6c)]) := harg 0 (lbr rfl)
  have kw := Keeps.refl All w
  clear harg
  refine wp_seq_k fun K1 hK1 => ?_
  refine rg mixed y0 zz0 ?_
  refine .boxOp (v := (.agg #[(.int .i64 (r.ln)), (.slice p0_1a (r.hs.length) p0_1c), (.int .u8 (r.cu.k)), (.int .i64 (r.cu.n)), (.string (r.cu.t)), (.slice p0_5a (r.cu.ns.length) p0_5c), (.slice p0_6a (r.cu.xs.length) p0_6c)])) (hbs rfl e0) ?_
  refine .alloc z33 ?_
  refine .done ⟨by kernel_rfl, fun a2 g W2 y2 zz2 hk hg hV hR hP => ?_⟩
  obtain ⟨⟨b2_2, e2, hb2, own_b2_2⟩, ⟨b1_2, e1, hb1, own_b1_2⟩, -⟩ := hV
  have lo_b2_2 : w.heap.size ≤ b2_2 := Nat.le_trans kw.size (hg.lo _ _ hb2)
  have own_b2_2 : Own W2 b2_2 [(.int .u8 (0)), (.int .i64 (0)), (.string (⟨#[]⟩)), (.slice none 0 0), (.slice none 0 0)] 33 := own_b2_2
  have lo_b1_2 : w.heap.size ≤ b1_2 := Nat.le_trans kw.size (hg.lo _ _ hb1)
  have own_b1_2 : Own W2 b1_2 [(.int .i64 (r.ln)), (.slice p0_1a (r.hs.length) p0_1c), (.int .u8 (r.cu.k)), (.int .i64 (r.cu.n)), (.string (r.cu.t)), (.slice p0_5a (r.cu.ns.length) p0_5c), (.slice p0_6a (r.cu.xs.length) p0_6c)] 87 := own_b1_2
  have ne_b2_2_b1_2 : b2_2 ≠ b1_2 := fun h => by have := hg.inj _ _ _ hb2 (h ▸ hb1); cases this
  replace D_p0_1 := sa_more D_p0_1 hk [b2_2, b1_2] (in_cons (hg.lo _ _ hb2) (in_cons (hg.lo _ _ hb1) in_nil))
  replace D_p0_5 := sa_more D_p0_5 hk [b2_2, b1_2] (in_cons (hg.lo _ _ hb2) (in_cons (hg.lo _ _ hb1) in_nil))
  replace D_p0_6 := sa_more D_p0_6 hk [b2_2, b1_2] (in_cons (hg.lo _ _ hb2) (in_cons (hg.lo _ _ hb1) in_nil))
  replace kw := kw.x hk
  clear hR hk hg hP hb2 hb1
  refine tail_nil (hK1 _ _ ?_)
  refine wp_seq_k fun K3 hK3 => ?_
  refine rg mixed y2 zz2 ?_
  refine .i (fo 1 (hbs rfl e1) Try.underlying87 rfl sz85 rfl) ?_
  refine .i (lo1 (hlc rfl) own_b1_2 trivial agg85 sz85 rfl) ?_
  refine .da (X := Fr W2) (e := V.d (hshO r.hs)) (sp_call1 (φ1 := IsD (SA w S [b2_2, b1_2]) (hssD (r.hs))) ent150 ((hlc rfl).dat D_p0_1 sub_all) (fun g u1 W hk hgk h1 => (hashesObject_ok (r.hs) hmh W _ _ h1).mono (ret_fr hk hgk))) ?_
  refine .da (X := Fr W2) (e := Mb.d (Mb.mk (⟨#[104, 97, 115, 104, 101, 115]⟩) (hshO r.hs))) (sp_buildD (zd := [D.str ⟨#[]⟩, V.d V.zero]) (es := [(0, D.str (⟨#[104, 97, 115, 104, 101, 115]⟩)), (1, V.d (hshO r.hs))]) Try.underlying67 z67 (pl67 Try.underlying67) ⟨rfl, Has.cst.str (lbr rfl), ⟨rfl, (hlc rfl), trivial⟩⟩ zMb (by first | rfl | simp [plOf, width, width_V, hssD]) (by simp [fits, width, strsD, valsD, hssD, width_V]) rfl) ?_
  refine .i (fo 0 (hbs rfl e1) Try.underlying87 rfl sz2 rfl) ?_
  refine .i (lo1 (hlc rfl) own_b1_2 trivial agg2 sz2 rfl) ?_
  refine .i (v := (.agg #[(.int .u8 (2)), (.int .i64 (r.ln)), (.string (⟨#[]⟩)), (.slice none 0 0), (.slice none 0 0)])) (sp_call1 (φ1 := Is (.int .i64 (r.ln))) ent39 (hlc rfl) (fun g u1 W hk hgk h1 => by have h1 : u1 = _ := h1; subst u1; exact pkNum_ok (r.ln) W)) ?_
  refine .i (v := (.agg #[(.string (⟨#[108, 101, 110, 103, 116, 104]⟩)), (.int .u8 (2)), (.int .i64 (r.ln)), (.string (⟨#[]⟩)), (.slice none 0 0), (.slice none 0 0)])) (sp_build (vs := [(0, (.string (⟨#[108, 101, 110, 103, 116, 104]⟩))), (1, (.agg #[(.int .u8 (2)), (.int .i64 (r.ln)), (.string (⟨#[]⟩)), (.slice none 0 0), (.slice none 0 0)]))]) Try.underlying67 z67 (pl67 Try.underlying67) ⟨rfl, Has.cst, rfl, (hlc rfl), trivial⟩ (by kernel_rfl)) ?_
  refine .op (φ := IsArr W2 w.heap.size 67 6 (SF w [b2_2, b1_2]) (List.map Mb.d ([Mb.mk (⟨#[104, 97, 115, 104, 101, 115]⟩) (hshO r.hs), Mb.mk (⟨#[108, 101, 110, 103, 116, 104]⟩) (V.mk (2) (r.ln) (⟨#[]⟩) ([]) ([]))])) none) st_arr (sp_bslR (ds := [Mb.d (Mb.mk (⟨#[104, 97, 115, 104, 101, 115]⟩) (hshO r.hs)), Mb.d (Mb.mk (⟨#[108, 101, 110, 103, 116, 104]⟩) (V.mk (2) (r.ln) (⟨#[]⟩) ([]) ([])))]) Try.underlying82 sz67 z67 (lbr rfl) (lbr rfl) ⟨rfl, ((hlc rfl).sup (fr_sf kw (in_cons own_b2_2.lt (in_cons own_b1_2.lt in_nil)))), ⟨rfl, ((hlc rfl).dat (rdMb_mk (lbr rfl) (rdV_mk (by decide) (rd_nil _) (rd_nil _) : Rd W2 (SF w [b2_2, b1_2]) (V.d (V.mk (2) (r.ln) (⟨#[]⟩) ([]) ([]))) _) : Rd W2 (SF w [b2_2, b1_2]) (Mb.d (Mb.mk (⟨#[108, 101, 110, 103, 116, 104]⟩) (V.mk (2) (r.ln) (⟨#[]⟩) ([]) ([])))) _) sub_all), trivial⟩⟩ rfl (by intro e he; simp at he; rcases he with rfl | rfl <;> exact width_Mb _) kw.size) ?_
  refine .done ⟨by kernel_rfl, fun a4 g W4 y4 zz4 hk hg hV hR hP => ?_⟩
  obtain ⟨e14, -, -, -, -, -, -, -, -, -⟩ := hV
  replace e2 := (hR 2 rfl).trans e2
  replace e1 := (hR 1 rfl).trans e1
  obtain ⟨v14_4, ev⟩ : ∃ v, sl a4 14 = v := ⟨_, rfl⟩
  rw [ev] at e14
  obtain ⟨hd14_4, A_14_4, hf14_4⟩ := e14
  have e14 := ev; clear ev
  replace hf14_4 := row_new hf14_4
  obtain ⟨v14_4a, v14_4n, v14_4c, ev⟩ := arr_sl A_14_4; subst ev
  replace A_14_4 : Arr W4 w.heap.size 67 6 (SF w (blks hd14_4 ++ (b2_2 :: (b1_2 :: [])))) (List.map Mb.d ([Mb.mk (⟨#[104, 97, 115, 104, 101, 115]⟩) (hshO r.hs), Mb.mk (⟨#[108, 101, 110, 103, 116, 104]⟩) (V.mk (2) (r.ln) (⟨#[]⟩) ([]) ([]))])) (.slice v14_4a v14_4n v14_4c) hd14_4 := arrF_new A_14_4 (M' := (blks hd14_4 ++ (b2_2 :: (b1_2 :: [])))) (fun b hb => (List.mem_append.1 hb).symm)
  have nb_b2_2_4 : b2_2 ∉ blks hd14_4 := fun hm => absurd (hf14_4 _ hm) (Nat.not_le.2 own_b2_2.lt)
  have nb_b1_2_4 : b1_2 ∉ blks hd14_4 := fun hm => absurd (hf14_4 _ hm) (Nat.not_le.2 own_b1_2.lt)
  replace D_p0_1 : Rd W4 (SA w S (blks hd14_4 ++ (b2_2 :: (b1_2 :: [])))) (hssD (r.hs)) (.slice p0_1a (r.hs.length) p0_1c) := sa_more D_p0_1 hk (blks hd14_4) hf14_4
  replace D_p0_5 : Rd W4 (SA w S (blks hd14_4 ++ (b2_2 :: (b1_2 :: [])))) (strsD (r.cu.ns)) (.slice p0_5a (r.cu.ns.length) p0_5c) := sa_more D_p0_5 hk (blks hd14_4) hf14_4
  replace D_p0_6 : Rd W4 (SA w S (blks hd14_4 ++ (b2_2 :: (b1_2 :: [])))) (valsD (r.cu.xs)) (.slice p0_6a (r.cu.xs.length) p0_6c) := sa_more D_p0_6 hk (blks hd14_4) hf14_4
  replace own_b2_2 := own_b2_2.ext hk
  replace own_b1_2 := own_b1_2.ext hk
  replace kw := kw.x hk
  clear hR hk hg hP hf14_4
  refine tail_assign (v := (.slice v14_4a v14_4n v14_4c)) e14 (by rw [y4]; exact Nat.le_of_ble_eq_true rfl) (fun a5 y5 zz5 e3 hr => ?_)
  replace y5 := y5.trans y4; replace zz5 := zz5.trans zz4
  replace e2 := (hr 2 (by decide)).trans e2
  replace e1 := (hr 1 (by decide)).trans e1
  replace e14 := (hr 14 (by decide)).trans e14
  clear hr
  refine tail_nil (hK3 _ _ ?_)
  refine wp_seq_k fun K6 hK6 => ?_
  refine wp_seq_k fun K7 hK7 => ?_
  refine rg mixed y5 zz5 ?_
  refine .i (fo 2 (hbs rfl e1) Try.underlying87 rfl sz33 rfl) ?_
  refine .i (v := (.agg #[(.int .u8 (r.cu.k)), (.int .i64 (r.cu.n)), (.string (r.cu.t)), (.slice p0_5a (r.cu.ns.length) p0_5c), (.slice p0_6a (r.cu.xs.length) p0_6c)])) (loA (hlc rfl) own_b1_2 trivial agg33 sz33 rfl rfl) ?_
  refine .i (v := (.bool (noneB (r.cu)))) (sp_call1 (φ1 := IsD (SA w S (blks hd14_4 ++ (b2_2 :: (b1_2 :: [])))) (V.d (r.cu))) ent131 ((hlc rfl).dat (rdV_in (x := r.cu) hb_p0_4 D_p0_5 D_p0_6 : Rd W4 (SA w S (blks hd14_4 ++ (b2_2 :: (b1_2 :: [])))) (V.d (r.cu)) _) sub_all) (fun g u1 W hk hgk h1 => none_ok (r.cu) W _ _ h1)) ?_
  refine .i (sp_not (hlc rfl)) ?_
  refine .done ⟨by kernel_rfl, fun a8 g W8 y8 zz8 hk hg hV hR hP => ?_⟩
  obtain ⟨e18, -, -, -, -⟩ := hV
  replace e2 := (hR 2 rfl).trans e2
  replace e1 := (hR 1 rfl).trans e1
  replace e3 := (hR 3 rfl).trans e3
  replace A_14_4 := A_14_4.ext hk
  replace D_p0_1 := D_p0_1.ext hk
  replace D_p0_5 := D_p0_5.ext hk
  replace D_p0_6 := D_p0_6.ext hk
  have e18 : sl a8 18 = (.bool (!(noneB (r.cu)))) := e18
  replace own_b2_2 := own_b2_2.ext hk
  replace own_b1_2 := own_b1_2.ext hk
  replace kw := kw.x hk
  clear hR hk hg hP
  refine tail_nil (hK7 _ _ ?_)
  refine wp_cond_split e18 (fun hc => ?_) (fun hc => ?_)
  ·
   have hno : noneB r.cu = false := by simpa using hc
   have hrl : recL r = [Mb.mk sHashes (hshO r.hs), Mb.mk sLength (numVv r.ln), Mb.mk sCustom r.cu] := by rw [recL, if_neg (by simp [hno])]
   refine wp_reg (fun k => k ∉ blks hd14_4) (Ψ := fun W => Arr W w.heap.size 67 6 (SF w (blks hd14_4 ++ (b2_2 :: (b1_2 :: [])))) (List.map Mb.d ([Mb.mk (⟨#[104, 97, 115, 104, 101, 115]⟩) (hshO r.hs), Mb.mk (⟨#[108, 101, 110, 103, 116, 104]⟩) (V.mk (2) (r.ln) (⟨#[]⟩) ([]) ([]))])) (.slice v14_4a v14_4n v14_4c) hd14_4) mixed y8 zz8 (fun W W' k h => h.ext k) A_14_4 ?_
   refine .i (sp_move (hbs rfl e3)) ?_
   refine .i (fo 2 (hbs rfl e1) Try.underlying87 rfl sz33 rfl) ?_
   refine .i (v := (.agg #[(.int .u8 (r.cu.k)), (.int .i64 (r.cu.n)), (.string (r.cu.t)), (.slice p0_5a (r.cu.ns.length) p0_5c), (.slice p0_6a (r.cu.xs.length) p0_6c)])) (loA (hlc rfl) own_b1_2 nb_b1_2_4 agg33 sz33 rfl rfl) ?_
   refine .op (φ := IsD (Fr W8) (V.d (r.cu))) (st_d (sub_frnb (fun b hb => A_14_4.lt b hb))) (sp_call1 (φ1 := IsD (SA w S (blks hd14_4 ++ (b2_2 :: (b1_2 :: [])))) (V.d (r.cu))) ent79 ((hlc rfl).dat (rdV_in (x := r.cu) hb_p0_4 D_p0_5 D_p0_6 : Rd W8 (SA w S (blks hd14_4 ++ (b2_2 :: (b1_2 :: [])))) (V.d (r.cu)) _) (sub_nb (fun b hb => List.mem_append_left _ hb))) (fun g u1 W hk hgk h1 => (Copy_ok (r.cu) (by first | omega | exact Nat.le_of_ble_eq_true (by kernel_rfl)) W _ _ (fun b o h => sa_cln hS b o h.1) h1).mono (ret_fr hk hgk))) ?_
   refine .op (φ := IsD (Fr W8) (Mb.d (Mb.mk (⟨#[99, 117, 115, 116, 111, 109]⟩) (r.cu)))) (st_d (sub_frnb (fun b hb => A_14_4.lt b hb))) (sp_buildD (zd := [D.str ⟨#[]⟩, V.d V.zero]) (es := [(0, D.str (⟨#[99, 117, 115, 116, 111, 109]⟩)), (1, V.d (r.cu))]) Try.underlying67 z67 (pl67 Try.underlying67) ⟨rfl, Has.cst.str (lbr rfl), ⟨rfl, (hlc rfl), trivial⟩⟩ zMb (by first | rfl | simp [plOf, width, width_V, hssD]) (by simp [fits, width, strsD, valsD, hssD, width_V]) rfl) ?_
   refine .op (φ := IsD (SF w (blks hd14_4 ++ (b2_2 :: (b1_2 :: [])))) (mbsD ([Mb.mk (⟨#[99, 117, 115, 116, 111, 109]⟩) (r.cu)]))) (st_d (sub_nbF (fun b hb => List.mem_append_left _ hb))) (sp_bsl (ds := [Mb.d (Mb.mk (⟨#[99, 117, 115, 116, 111, 109]⟩) (r.cu))]) Try.underlying82 sz67 z67 (lbr rfl) (lbr rfl) ⟨rfl, ((hlc rfl).sup (fr_sf kw (in_app A_14_4.lt (in_cons own_b2_2.lt (in_cons own_b1_2.lt in_nil))))), trivial⟩ rfl (by intro e he; simp at he; rcases he with rfl <;> exact width_Mb _) (fr_sf kw (in_app A_14_4.lt (in_cons own_b2_2.lt (in_cons own_b1_2.lt in_nil))))) ?_
   refine .appB (ds := List.map Mb.d ([Mb.mk (⟨#[104, 97, 115, 104, 101, 115]⟩) (hshO r.hs), Mb.mk (⟨#[108, 101, 110, 103, 116, 104]⟩) (V.mk (2) (r.ln) (⟨#[]⟩) ([]) ([]))])) (es := [Mb.d (Mb.mk (⟨#[99, 117, 115, 116, 111, 109]⟩) (r.cu))]) (X := SF w (blks hd14_4 ++ (b2_2 :: (b1_2 :: [])))) Try.underlying82 inf67 (lbr rfl) (hlc rfl) (hlc rfl) (sub_nbF (fun b hb => List.mem_append_left _ hb)) (by simp [maxLen]) (by simp) kw.size ?_
   refine .done ⟨by kernel_rfl, fun a9 g W9 y9 zz9 hk hg hV hR hP => ?_⟩
   obtain ⟨e25, -, -, -, -, -, -, -⟩ := hV
   replace e2 := (hR 2 rfl).trans e2
   replace e3 := (hR 3 rfl).trans e3
   obtain ⟨v25_9, ev⟩ : ∃ v, sl a9 25 = v := ⟨_, rfl⟩
   rw [ev] at e25
   obtain ⟨hd25_9, A_25_9, hf25_9⟩ := e25
   have e25 := ev; clear ev
   obtain ⟨v25_9a, v25_9n, v25_9c, ev⟩ := arr_sl A_25_9; subst ev
   replace A_25_9 := arrF_new (M' := (blks hd25_9 ++ (b2_2 :: (b1_2 :: [])))) A_25_9 (rep_app (rep_q fun _ h => h) (rep_cons (rep_cons rep_nil)))
   replace A_25_9 : Arr W9 w.heap.size 67 6 (SF w (blks hd25_9 ++ (b2_2 :: (b1_2 :: [])))) (List.map Mb.d (([Mb.mk (⟨#[104, 97, 115, 104, 101, 115]⟩) (hshO r.hs), Mb.mk (⟨#[108, 101, 110, 103, 116, 104]⟩) (V.mk (2) (r.ln) (⟨#[]⟩) ([]) ([]))]) ++ [Mb.mk (⟨#[99, 117, 115, 116, 111, 109]⟩) (r.cu)])) (.slice v25_9a v25_9n v25_9c) hd25_9 := by first | exact A_25_9 | (rw [List.map_append]; exact A_25_9)
   have nb_b2_2_9 : b2_2 ∉ blks hd25_9 := nb_new nb_b2_2_4 own_b2_2.lt hf25_9
   have nb_b1_2_9 : b1_2 ∉ blks hd25_9 := nb_new nb_b1_2_4 own_b1_2.lt hf25_9
   replace D_p0_1 := sa_app (M' := (blks hd25_9 ++ (b2_2 :: (b1_2 :: [])))) D_p0_1 hk (fun b hb => List.mem_append_left _ hb) (rep_app hf25_9 (rep_cons (rep_cons rep_nil)))
   replace D_p0_5 := sa_app (M' := (blks hd25_9 ++ (b2_2 :: (b1_2 :: [])))) D_p0_5 hk (fun b hb => List.mem_append_left _ hb) (rep_app hf25_9 (rep_cons (rep_cons rep_nil)))
   replace D_p0_6 := sa_app (M' := (blks hd25_9 ++ (b2_2 :: (b1_2 :: [])))) D_p0_6 hk (fun b hb => List.mem_append_left _ hb) (rep_app hf25_9 (rep_cons (rep_cons rep_nil)))
   replace own_b2_2 := own_app own_b2_2 hk nb_b2_2_4
   replace own_b1_2 := own_app own_b1_2 hk nb_b1_2_4
   replace kw := keeps_app kw hk A_14_4.ge
   clear hR hk hg hP hf25_9 A_14_4
   refine tail_assign (v := (.slice v25_9a v25_9n v25_9c)) e25 (by rw [y9]; exact Nat.le_of_ble_eq_true rfl) (fun a10 y10 zz10 e3 hr => ?_)
   replace y10 := y10.trans y9; replace zz10 := zz10.trans zz9
   replace e2 := (hr 2 (by decide)).trans e2
   replace e25 := (hr 25 (by decide)).trans e25
   clear hr
   have D_v25_9 : Rd W9 (SF w [b2_2, b1_2]) (mbsD (([Mb.mk (⟨#[104, 97, 115, 104, 101, 115]⟩) (hshO r.hs), Mb.mk (⟨#[108, 101, 110, 103, 116, 104]⟩) (V.mk (2) (r.ln) (⟨#[]⟩) ([]) ([]))]) ++ [Mb.mk (⟨#[99, 117, 115, 116, 111, 109]⟩) (r.cu)])) (.slice v25_9a v25_9n v25_9c) := arrF_rd A_25_9 (ls_skipA (ls_keep (ls_keep ls_nil))) (nin_cons nb_b2_2_9 (nin_cons nb_b1_2_9 nin_nil))
   obtain ⟨xa, xc, ev, D2⟩ := rdMbs_out D_v25_9
   injection ev with h1 h2 h3; subst h1 h2 h3; replace D_v25_9 := D2; clear D2
   refine tail_nil (hK6 _ _ ?_)
   refine wp_seq_k fun K11 hK11 => ?_
   refine rg mixed y10 zz10 ?_
   refine .i (sp_move (hbs rfl e3)) ?_
   refine .op (φ := IsT (IsD (Fr W9) (V.d (objM (([Mb.mk (⟨#[104, 97, 115, 104, 101, 115]⟩) (hshO r.hs), Mb.mk (⟨#[108, 101, 110, 103, 116, 104]⟩) (V.mk (2) (r.ln) (⟨#[]⟩) ([]) ([]))]) ++ [Mb.mk (⟨#[99, 117, 115, 116, 111, 109]⟩) (r.cu)])))) (Is (.int .i64 (objE (([Mb.mk (⟨#[104, 97, 115, 104, 101, 115]⟩) (hshO r.hs), Mb.mk (⟨#[108, 101, 110, 103, 116, 104]⟩) (V.mk (2) (r.ln) (⟨#[]⟩) ([]) ([]))]) ++ [Mb.mk (⟨#[99, 117, 115, 116, 111, 109]⟩) (r.cu)]))))) (st_t (st_d sub_all) (st_is _)) (sp_call1 (φ1 := IsD (SF w [b2_2, b1_2]) (mbsD (([Mb.mk (⟨#[104, 97, 115, 104, 101, 115]⟩) (hshO r.hs), Mb.mk (⟨#[108, 101, 110, 103, 116, 104]⟩) (V.mk (2) (r.ln) (⟨#[]⟩) ([]) ([]))]) ++ [Mb.mk (⟨#[99, 117, 115, 116, 111, 109]⟩) (r.cu)]))) ent38 ((hlc rfl).dat D_v25_9 sub_all) (fun g u1 W hk hgk h1 => (ObjectOf_ok (([Mb.mk (⟨#[104, 97, 115, 104, 101, 115]⟩) (hshO r.hs), Mb.mk (⟨#[108, 101, 110, 103, 116, 104]⟩) (V.mk (2) (r.ln) (⟨#[]⟩) ([]) ([]))]) ++ [Mb.mk (⟨#[99, 117, 115, 116, 111, 109]⟩) (r.cu)]) (by have h := hobk.1; rw [hrl] at h; exact h) (by have h := hobk.2.1; rw [hrl] at h; exact h) (by have h := hobk.2.2; rw [hrl] at h; exact h) W _ _ (fun b o h => h.1.2.1) h1).mono (fun _ _ ⟨v, h1, h2, r1, h3, h4⟩ => ⟨v, h1, h2, r1, _, h3, fresh_d hk hgk h4, rfl⟩))) ?_
   refine .op (φ := _) (st_t (st_d sub_all) (st_is _)) (sp_move (hlc rfl)) ?_
   refine .da (X := Fr W9) (e := V.d (objM (([Mb.mk (⟨#[104, 97, 115, 104, 101, 115]⟩) (hshO r.hs), Mb.mk (⟨#[108, 101, 110, 103, 116, 104]⟩) (V.mk (2) (r.ln) (⟨#[]⟩) ([]) ([]))]) ++ [Mb.mk (⟨#[99, 117, 115, 116, 111, 109]⟩) (r.cu)]))) (sp_ext2 (hlc rfl) rfl) ?_
   refine .i (v := (.int .i64 (objE (([Mb.mk (⟨#[104, 97, 115, 104, 101, 115]⟩) (hshO r.hs), Mb.mk (⟨#[108, 101, 110, 103, 116, 104]⟩) (V.mk (2) (r.ln) (⟨#[]⟩) ([]) ([]))]) ++ [Mb.mk (⟨#[99, 117, 115, 116, 111, 109]⟩) (r.cu)])))) (sp_ext2' (hlc rfl) rfl) ?_
   refine .alloc z33 ?_
   refine .done ⟨by kernel_rfl, fun a12 g W12 y12 zz12 hk hg hV hR hP => ?_⟩
   obtain ⟨⟨b4_12, e4, hb4, own_b4_12⟩, e30, e29, -, -, -, -⟩ := hV
   have lo_b4_12 : w.heap.size ≤ b4_12 := Nat.le_trans kw.size (hg.lo _ _ hb4)
   have ne_b2_2_b4_12 : b2_2 ≠ b4_12 := Nat.ne_of_lt (Nat.lt_of_lt_of_le own_b2_2.lt (hg.lo _ _ hb4))
   have ne_b1_2_b4_12 : b1_2 ≠ b4_12 := Nat.ne_of_lt (Nat.lt_of_lt_of_le own_b1_2.lt (hg.lo _ _ hb4))
   have own_b4_12 : Own W12 b4_12 [(.int .u8 (0)), (.int .i64 (0)), (.string (⟨#[]⟩)), (.slice none 0 0), (.slice none 0 0)] 33 := own_b4_12
   replace e2 := (hR 2 rfl).trans e2
   replace D_v25_9 := sf_more D_v25_9 hk [b4_12] (in_cons (hg.lo _ _ hb4) in_nil)
   obtain ⟨v29_12, ev⟩ : ∃ v, sl a12 29 = v := ⟨_, rfl⟩
   rw [ev] at e29
   have D_v29_12 : Rd W12 (SF w [b4_12, b2_2, b1_2]) (V.d (objM (([Mb.mk (⟨#[104, 97, 115, 104, 101, 115]⟩) (hshO r.hs), Mb.mk (⟨#[108, 101, 110, 103, 116, 104]⟩) (V.mk (2) (r.ln) (⟨#[]⟩) ([]) ([]))]) ++ [Mb.mk (⟨#[99, 117, 115, 116, 111, 109]⟩) (r.cu)]))) v29_12 := fr_end (M := [b2_2, b1_2]) e29 kw [b4_12] (in_cons ⟨_, hb4⟩ in_nil) (in_cons own_b2_2.lt (in_cons own_b1_2.lt in_nil))
   replace e29 := ev; clear ev
   obtain ⟨cn29_12a, cn29_12c, ci29_12a, ci29_12c, ev, ht_v29_12, D_cn29_12, D_ci29_12⟩ := rdV_out D_v29_12
   subst ev; clear D_v29_12
   replace e30 := e30.q
   replace own_b2_2 := own_b2_2.ext hk
   replace own_b1_2 := own_b1_2.ext hk
   replace kw := kw.x hk
   clear hR hk hg hP hb4
   refine tail_store (b := b4_12) (o := 0) (v := (.agg #[(.int .u8 ((objM (([Mb.mk (⟨#[104, 97, 115, 104, 101, 115]⟩) (hshO r.hs), Mb.mk (⟨#[108, 101, 110, 103, 116, 104]⟩) (V.mk (2) (r.ln) (⟨#[]⟩) ([]) ([]))]) ++ [Mb.mk (⟨#[99, 117, 115, 116, 111, 109]⟩) (r.cu)])).k)), (.int .i64 ((objM (([Mb.mk (⟨#[104, 97, 115, 104, 101, 115]⟩) (hshO r.hs), Mb.mk (⟨#[108, 101, 110, 103, 116, 104]⟩) (V.mk (2) (r.ln) (⟨#[]⟩) ([]) ([]))]) ++ [Mb.mk (⟨#[99, 117, 115, 116, 111, 109]⟩) (r.cu)])).n)), (.string ((objM (([Mb.mk (⟨#[104, 97, 115, 104, 101, 115]⟩) (hshO r.hs), Mb.mk (⟨#[108, 101, 110, 103, 116, 104]⟩) (V.mk (2) (r.ln) (⟨#[]⟩) ([]) ([]))]) ++ [Mb.mk (⟨#[99, 117, 115, 116, 111, 109]⟩) (r.cu)])).t)), (.slice cn29_12a (((objM (([Mb.mk (⟨#[104, 97, 115, 104, 101, 115]⟩) (hshO r.hs), Mb.mk (⟨#[108, 101, 110, 103, 116, 104]⟩) (V.mk (2) (r.ln) (⟨#[]⟩) ([]) ([]))]) ++ [Mb.mk (⟨#[99, 117, 115, 116, 111, 109]⟩) (r.cu)])).ns).length) cn29_12c), (.slice ci29_12a (((objM (([Mb.mk (⟨#[104, 97, 115, 104, 101, 115]⟩) (hshO r.hs), Mb.mk (⟨#[108, 101, 110, 103, 116, 104]⟩) (V.mk (2) (r.ln) (⟨#[]⟩) ([]) ([]))]) ++ [Mb.mk (⟨#[99, 117, 115, 116, 111, 109]⟩) (r.cu)])).xs).length) ci29_12c)])) e4 e29 sz33 rfl own_b4_12 (lbr rfl) (all_cons rfl (all_cons rfl (all_cons rfl (all_cons rfl (all_cons rfl all_nil))))) (fun W13 hs own_b4_12 => ?_)
   have own_b4_12 : Own W13 b4_12 [(.int .u8 ((objM (([Mb.mk (⟨#[104, 97, 115, 104, 101, 115]⟩) (hshO r.hs), Mb.mk (⟨#[108, 101, 110, 103, 116, 104]⟩) (V.mk (2) (r.ln) (⟨#[]⟩) ([]) ([]))]) ++ [Mb.mk (⟨#[99, 117, 115, 116, 111, 109]⟩) (r.cu)])).k)), (.int .i64 ((objM (([Mb.mk (⟨#[104, 97, 115, 104, 101, 115]⟩) (hshO r.hs), Mb.mk (⟨#[108, 101, 110, 103, 116, 104]⟩) (V.mk (2) (r.ln) (⟨#[]⟩) ([]) ([]))]) ++ [Mb.mk (⟨#[99, 117, 115, 116, 111, 109]⟩) (r.cu)])).n)), (.string ((objM (([Mb.mk (⟨#[104, 97, 115, 104, 101, 115]⟩) (hshO r.hs), Mb.mk (⟨#[108, 101, 110, 103, 116, 104]⟩) (V.mk (2) (r.ln) (⟨#[]⟩) ([]) ([]))]) ++ [Mb.mk (⟨#[99, 117, 115, 116, 111, 109]⟩) (r.cu)])).t)), (.slice cn29_12a (((objM (([Mb.mk (⟨#[104, 97, 115, 104, 101, 115]⟩) (hshO r.hs), Mb.mk (⟨#[108, 101, 110, 103, 116, 104]⟩) (V.mk (2) (r.ln) (⟨#[]⟩) ([]) ([]))]) ++ [Mb.mk (⟨#[99, 117, 115, 116, 111, 109]⟩) (r.cu)])).ns).length) cn29_12c), (.slice ci29_12a (((objM (([Mb.mk (⟨#[104, 97, 115, 104, 101, 115]⟩) (hshO r.hs), Mb.mk (⟨#[108, 101, 110, 103, 116, 104]⟩) (V.mk (2) (r.ln) (⟨#[]⟩) ([]) ([]))]) ++ [Mb.mk (⟨#[99, 117, 115, 116, 111, 109]⟩) (r.cu)])).xs).length) ci29_12c)] 33 := own_b4_12
   replace own_b2_2 := own_store own_b2_2 hs ne_b2_2_b4_12
   replace own_b1_2 := own_store own_b1_2 hs ne_b1_2_b4_12
   replace D_v25_9 := sf_store D_v25_9 hs (by simp)
   replace D_cn29_12 := sf_store D_cn29_12 hs (by simp)
   replace D_ci29_12 := sf_store D_ci29_12 hs (by simp)
   replace kw := keeps_store kw hs lo_b4_12
   clear hs
   refine tail_assign (v := (.int .i64 (objE (([Mb.mk (⟨#[104, 97, 115, 104, 101, 115]⟩) (hshO r.hs), Mb.mk (⟨#[108, 101, 110, 103, 116, 104]⟩) (V.mk (2) (r.ln) (⟨#[]⟩) ([]) ([]))]) ++ [Mb.mk (⟨#[99, 117, 115, 116, 111, 109]⟩) (r.cu)])))) e30 (by rw [y12]; exact Nat.le_of_ble_eq_true rfl) (fun a14 y14 zz14 e5 hr => ?_)
   replace y14 := y14.trans y12; replace zz14 := zz14.trans zz12
   replace e2 := (hr 2 (by decide)).trans e2
   replace e4 := (hr 4 (by decide)).trans e4
   replace e29 := (hr 29 (by decide)).trans e29
   replace e30 := (hr 30 (by decide)).trans e30
   clear hr
   refine tail_nil (hK11 _ _ ?_)
   refine wp_seq_k fun K15 hK15 => ?_
   refine rg mixed y14 zz14 ?_
   refine .i (v := (.agg #[(.int .u8 ((objM (([Mb.mk (⟨#[104, 97, 115, 104, 101, 115]⟩) (hshO r.hs), Mb.mk (⟨#[108, 101, 110, 103, 116, 104]⟩) (V.mk (2) (r.ln) (⟨#[]⟩) ([]) ([]))]) ++ [Mb.mk (⟨#[99, 117, 115, 116, 111, 109]⟩) (r.cu)])).k)), (.int .i64 ((objM (([Mb.mk (⟨#[104, 97, 115, 104, 101, 115]⟩) (hshO r.hs), Mb.mk (⟨#[108, 101, 110, 103, 116, 104]⟩) (V.mk (2) (r.ln) (⟨#[]⟩) ([]) ([]))]) ++ [Mb.mk (⟨#[99, 117, 115, 116, 111, 109]⟩) (r.cu)])).n)), (.string ((objM (([Mb.mk (⟨#[104, 97, 115, 104, 101, 115]⟩) (hshO r.hs), Mb.mk (⟨#[108, 101, 110, 103, 116, 104]⟩) (V.mk (2) (r.ln) (⟨#[]⟩) ([]) ([]))]) ++ [Mb.mk (⟨#[99, 117, 115, 116, 111, 109]⟩) (r.cu)])).t)), (.slice cn29_12a (((objM (([Mb.mk (⟨#[104, 97, 115, 104, 101, 115]⟩) (hshO r.hs), Mb.mk (⟨#[108, 101, 110, 103, 116, 104]⟩) (V.mk (2) (r.ln) (⟨#[]⟩) ([]) ([]))]) ++ [Mb.mk (⟨#[99, 117, 115, 116, 111, 109]⟩) (r.cu)])).ns).length) cn29_12c), (.slice ci29_12a (((objM (([Mb.mk (⟨#[104, 97, 115, 104, 101, 115]⟩) (hshO r.hs), Mb.mk (⟨#[108, 101, 110, 103, 116, 104]⟩) (V.mk (2) (r.ln) (⟨#[]⟩) ([]) ([]))]) ++ [Mb.mk (⟨#[99, 117, 115, 116, 111, 109]⟩) (r.cu)])).xs).length) ci29_12c)])) (loA (hbs rfl e4) own_b4_12 trivial agg33 sz33 rfl rfl) ?_
   refine .done ⟨by kernel_rfl, fun a16 g W16 y16 zz16 hk hg hV hR hP => ?_⟩
   obtain ⟨e31, -⟩ := hV
   replace e2 := (hR 2 rfl).trans e2
   replace D_cn29_12 := D_cn29_12.ext hk
   replace D_ci29_12 := D_ci29_12.ext hk
   replace e31 := e31.q
   replace own_b2_2 := own_b2_2.ext hk
   replace own_b1_2 := own_b1_2.ext hk
   replace own_b4_12 := own_b4_12.ext hk
   replace kw := kw.x hk
   clear hR hk hg hP
   refine tail_store (b := b2_2) (o := 0) (v := (.agg #[(.int .u8 ((objM (([Mb.mk (⟨#[104, 97, 115, 104, 101, 115]⟩) (hshO r.hs), Mb.mk (⟨#[108, 101, 110, 103, 116, 104]⟩) (V.mk (2) (r.ln) (⟨#[]⟩) ([]) ([]))]) ++ [Mb.mk (⟨#[99, 117, 115, 116, 111, 109]⟩) (r.cu)])).k)), (.int .i64 ((objM (([Mb.mk (⟨#[104, 97, 115, 104, 101, 115]⟩) (hshO r.hs), Mb.mk (⟨#[108, 101, 110, 103, 116, 104]⟩) (V.mk (2) (r.ln) (⟨#[]⟩) ([]) ([]))]) ++ [Mb.mk (⟨#[99, 117, 115, 116, 111, 109]⟩) (r.cu)])).n)), (.string ((objM (([Mb.mk (⟨#[104, 97, 115, 104, 101, 115]⟩) (hshO r.hs), Mb.mk (⟨#[108, 101, 110, 103, 116, 104]⟩) (V.mk (2) (r.ln) (⟨#[]⟩) ([]) ([]))]) ++ [Mb.mk (⟨#[99, 117, 115, 116, 111, 109]⟩) (r.cu)])).t)), (.slice cn29_12a (((objM (([Mb.mk (⟨#[104, 97, 115, 104, 101, 115]⟩) (hshO r.hs), Mb.mk (⟨#[108, 101, 110, 103, 116, 104]⟩) (V.mk (2) (r.ln) (⟨#[]⟩) ([]) ([]))]) ++ [Mb.mk (⟨#[99, 117, 115, 116, 111, 109]⟩) (r.cu)])).ns).length) cn29_12c), (.slice ci29_12a (((objM (([Mb.mk (⟨#[104, 97, 115, 104, 101, 115]⟩) (hshO r.hs), Mb.mk (⟨#[108, 101, 110, 103, 116, 104]⟩) (V.mk (2) (r.ln) (⟨#[]⟩) ([]) ([]))]) ++ [Mb.mk (⟨#[99, 117, 115, 116, 111, 109]⟩) (r.cu)])).xs).length) ci29_12c)])) e2 e31 sz33 rfl own_b2_2 (lbr rfl) (all_cons rfl (all_cons rfl (all_cons rfl (all_cons rfl (all_cons rfl all_nil))))) (fun W17 hs own_b2_2 => ?_)
   have own_b2_2 : Own W17 b2_2 [(.int .u8 ((objM (([Mb.mk (⟨#[104, 97, 115, 104, 101, 115]⟩) (hshO r.hs), Mb.mk (⟨#[108, 101, 110, 103, 116, 104]⟩) (V.mk (2) (r.ln) (⟨#[]⟩) ([]) ([]))]) ++ [Mb.mk (⟨#[99, 117, 115, 116, 111, 109]⟩) (r.cu)])).k)), (.int .i64 ((objM (([Mb.mk (⟨#[104, 97, 115, 104, 101, 115]⟩) (hshO r.hs), Mb.mk (⟨#[108, 101, 110, 103, 116, 104]⟩) (V.mk (2) (r.ln) (⟨#[]⟩) ([]) ([]))]) ++ [Mb.mk (⟨#[99, 117, 115, 116, 111, 109]⟩) (r.cu)])).n)), (.string ((objM (([Mb.mk (⟨#[104, 97, 115, 104, 101, 115]⟩) (hshO r.hs), Mb.mk (⟨#[108, 101, 110, 103, 116, 104]⟩) (V.mk (2) (r.ln) (⟨#[]⟩) ([]) ([]))]) ++ [Mb.mk (⟨#[99, 117, 115, 116, 111, 109]⟩) (r.cu)])).t)), (.slice cn29_12a (((objM (([Mb.mk (⟨#[104, 97, 115, 104, 101, 115]⟩) (hshO r.hs), Mb.mk (⟨#[108, 101, 110, 103, 116, 104]⟩) (V.mk (2) (r.ln) (⟨#[]⟩) ([]) ([]))]) ++ [Mb.mk (⟨#[99, 117, 115, 116, 111, 109]⟩) (r.cu)])).ns).length) cn29_12c), (.slice ci29_12a (((objM (([Mb.mk (⟨#[104, 97, 115, 104, 101, 115]⟩) (hshO r.hs), Mb.mk (⟨#[108, 101, 110, 103, 116, 104]⟩) (V.mk (2) (r.ln) (⟨#[]⟩) ([]) ([]))]) ++ [Mb.mk (⟨#[99, 117, 115, 116, 111, 109]⟩) (r.cu)])).xs).length) ci29_12c)] 33 := own_b2_2
   replace own_b1_2 := own_store own_b1_2 hs ne_b2_2_b1_2.symm
   replace own_b4_12 := own_store own_b4_12 hs ne_b2_2_b4_12.symm
   replace D_cn29_12 := sf_store D_cn29_12 hs (by simp)
   replace D_ci29_12 := sf_store D_ci29_12 hs (by simp)
   replace kw := keeps_store kw hs lo_b2_2
   clear hs
   refine tail_nil (hK15 _ _ ?_)
   refine wp_ret ?_
   refine (show bodyPost Try.prog Try.f132 _ .ret _ _ from retC (v := (.agg #[(.int .u8 ((objM (([Mb.mk (⟨#[104, 97, 115, 104, 101, 115]⟩) (hshO r.hs), Mb.mk (⟨#[108, 101, 110, 103, 116, 104]⟩) (V.mk (2) (r.ln) (⟨#[]⟩) ([]) ([]))]) ++ [Mb.mk (⟨#[99, 117, 115, 116, 111, 109]⟩) (r.cu)])).k)), (.int .i64 ((objM (([Mb.mk (⟨#[104, 97, 115, 104, 101, 115]⟩) (hshO r.hs), Mb.mk (⟨#[108, 101, 110, 103, 116, 104]⟩) (V.mk (2) (r.ln) (⟨#[]⟩) ([]) ([]))]) ++ [Mb.mk (⟨#[99, 117, 115, 116, 111, 109]⟩) (r.cu)])).n)), (.string ((objM (([Mb.mk (⟨#[104, 97, 115, 104, 101, 115]⟩) (hshO r.hs), Mb.mk (⟨#[108, 101, 110, 103, 116, 104]⟩) (V.mk (2) (r.ln) (⟨#[]⟩) ([]) ([]))]) ++ [Mb.mk (⟨#[99, 117, 115, 116, 111, 109]⟩) (r.cu)])).t)), (.slice cn29_12a (((objM (([Mb.mk (⟨#[104, 97, 115, 104, 101, 115]⟩) (hshO r.hs), Mb.mk (⟨#[108, 101, 110, 103, 116, 104]⟩) (V.mk (2) (r.ln) (⟨#[]⟩) ([]) ([]))]) ++ [Mb.mk (⟨#[99, 117, 115, 116, 111, 109]⟩) (r.cu)])).ns).length) cn29_12c), (.slice ci29_12a (((objM (([Mb.mk (⟨#[104, 97, 115, 104, 101, 115]⟩) (hshO r.hs), Mb.mk (⟨#[108, 101, 110, 103, 116, 104]⟩) (V.mk (2) (r.ln) (⟨#[]⟩) ([]) ([]))]) ++ [Mb.mk (⟨#[99, 117, 115, 116, 111, 109]⟩) (r.cu)])).xs).length) ci29_12c)])) rfl zz16 e2 own_b2_2 agg33 sz33 rfl (fun h => by cases h) rfl ⟨_, rfl, kw, ?_⟩)
   rw [show recO r = (objM (([Mb.mk (⟨#[104, 97, 115, 104, 101, 115]⟩) (hshO r.hs), Mb.mk (⟨#[108, 101, 110, 103, 116, 104]⟩) (V.mk (2) (r.ln) (⟨#[]⟩) ([]) ([]))]) ++ [Mb.mk (⟨#[99, 117, 115, 116, 111, 109]⟩) (r.cu)])) by rw [recO, hrl]; rfl]
   exact sf_fr (rdV_in (x := (objM (([Mb.mk (⟨#[104, 97, 115, 104, 101, 115]⟩) (hshO r.hs), Mb.mk (⟨#[108, 101, 110, 103, 116, 104]⟩) (V.mk (2) (r.ln) (⟨#[]⟩) ([]) ([]))]) ++ [Mb.mk (⟨#[99, 117, 115, 116, 111, 109]⟩) (r.cu)]))) ht_v29_12 D_cn29_12 D_ci29_12 : Rd W17 (SF w [b4_12, b2_2, b1_2]) (V.d ((objM (([Mb.mk (⟨#[104, 97, 115, 104, 101, 115]⟩) (hshO r.hs), Mb.mk (⟨#[108, 101, 110, 103, 116, 104]⟩) (V.mk (2) (r.ln) (⟨#[]⟩) ([]) ([]))]) ++ [Mb.mk (⟨#[99, 117, 115, 116, 111, 109]⟩) (r.cu)])))) _)
  ·
   have hno : noneB r.cu = true := by simpa using hc
   have hrl : recL r = [Mb.mk sHashes (hshO r.hs), Mb.mk sLength (numVv r.ln)] := by rw [recL, if_pos hno]
   have D_v14_4 : Rd W8 (SF w [b2_2, b1_2]) (mbsD ([Mb.mk (⟨#[104, 97, 115, 104, 101, 115]⟩) (hshO r.hs), Mb.mk (⟨#[108, 101, 110, 103, 116, 104]⟩) (V.mk (2) (r.ln) (⟨#[]⟩) ([]) ([]))])) (.slice v14_4a v14_4n v14_4c) := arrF_rd A_14_4 (ls_skipA (ls_keep (ls_keep ls_nil))) (nin_cons nb_b2_2_4 (nin_cons nb_b1_2_4 nin_nil))
   obtain ⟨xa, xc, ev, D2⟩ := rdMbs_out D_v14_4
   injection ev with h1 h2 h3; subst h1 h2 h3; replace D_v14_4 := D2; clear D2
   replace D_p0_1 := sa_less (M' := [b2_2, b1_2]) D_p0_1 (ls_skipA (ls_keep (ls_keep ls_nil)))
   replace D_p0_5 := sa_less (M' := [b2_2, b1_2]) D_p0_5 (ls_skipA (ls_keep (ls_keep ls_nil)))
   replace D_p0_6 := sa_less (M' := [b2_2, b1_2]) D_p0_6 (ls_skipA (ls_keep (ls_keep ls_nil)))
   refine wp_skip (hK6 _ _ ?_)
   refine wp_seq_k fun K18 hK18 => ?_
   refine rg mixed y8 zz8 ?_
   refine .i (sp_move (hbs rfl e3)) ?_
   refine .op (φ := IsT (IsD (Fr W8) (V.d (objM ([Mb.mk (⟨#[104, 97, 115, 104, 101, 115]⟩) (hshO r.hs), Mb.mk (⟨#[108, 101, 110, 103, 116, 104]⟩) (V.mk (2) (r.ln) (⟨#[]⟩) ([]) ([]))])))) (Is (.int .i64 (objE ([Mb.mk (⟨#[104, 97, 115, 104, 101, 115]⟩) (hshO r.hs), Mb.mk (⟨#[108, 101, 110, 103, 116, 104]⟩) (V.mk (2) (r.ln) (⟨#[]⟩) ([]) ([]))]))))) (st_t (st_d sub_all) (st_is _)) (sp_call1 (φ1 := IsD (SF w [b2_2, b1_2]) (mbsD ([Mb.mk (⟨#[104, 97, 115, 104, 101, 115]⟩) (hshO r.hs), Mb.mk (⟨#[108, 101, 110, 103, 116, 104]⟩) (V.mk (2) (r.ln) (⟨#[]⟩) ([]) ([]))]))) ent38 ((hlc rfl).dat D_v14_4 sub_all) (fun g u1 W hk hgk h1 => (ObjectOf_ok ([Mb.mk (⟨#[104, 97, 115, 104, 101, 115]⟩) (hshO r.hs), Mb.mk (⟨#[108, 101, 110, 103, 116, 104]⟩) (V.mk (2) (r.ln) (⟨#[]⟩) ([]) ([]))]) (by have h := hobk.1; rw [hrl] at h; exact h) (by have h := hobk.2.1; rw [hrl] at h; exact h) (by have h := hobk.2.2; rw [hrl] at h; exact h) W _ _ (fun b o h => h.1.2.1) h1).mono (fun _ _ ⟨v, h1, h2, r1, h3, h4⟩ => ⟨v, h1, h2, r1, _, h3, fresh_d hk hgk h4, rfl⟩))) ?_
   refine .op (φ := _) (st_t (st_d sub_all) (st_is _)) (sp_move (hlc rfl)) ?_
   refine .da (X := Fr W8) (e := V.d (objM ([Mb.mk (⟨#[104, 97, 115, 104, 101, 115]⟩) (hshO r.hs), Mb.mk (⟨#[108, 101, 110, 103, 116, 104]⟩) (V.mk (2) (r.ln) (⟨#[]⟩) ([]) ([]))]))) (sp_ext2 (hlc rfl) rfl) ?_
   refine .i (v := (.int .i64 (objE ([Mb.mk (⟨#[104, 97, 115, 104, 101, 115]⟩) (hshO r.hs), Mb.mk (⟨#[108, 101, 110, 103, 116, 104]⟩) (V.mk (2) (r.ln) (⟨#[]⟩) ([]) ([]))])))) (sp_ext2' (hlc rfl) rfl) ?_
   refine .alloc z33 ?_
   refine .done ⟨by kernel_rfl, fun a19 g W19 y19 zz19 hk hg hV hR hP => ?_⟩
   obtain ⟨⟨b4_19, e4, hb4, own_b4_19⟩, e30, e29, -, -, -, -⟩ := hV
   have lo_b4_19 : w.heap.size ≤ b4_19 := Nat.le_trans kw.size (hg.lo _ _ hb4)
   have ne_b2_2_b4_19 : b2_2 ≠ b4_19 := Nat.ne_of_lt (Nat.lt_of_lt_of_le own_b2_2.lt (hg.lo _ _ hb4))
   have ne_b1_2_b4_19 : b1_2 ≠ b4_19 := Nat.ne_of_lt (Nat.lt_of_lt_of_le own_b1_2.lt (hg.lo _ _ hb4))
   have own_b4_19 : Own W19 b4_19 [(.int .u8 (0)), (.int .i64 (0)), (.string (⟨#[]⟩)), (.slice none 0 0), (.slice none 0 0)] 33 := own_b4_19
   replace e2 := (hR 2 rfl).trans e2
   replace D_p0_1 := sa_more D_p0_1 hk [b4_19] (in_cons (hg.lo _ _ hb4) in_nil)
   replace D_p0_5 := sa_more D_p0_5 hk [b4_19] (in_cons (hg.lo _ _ hb4) in_nil)
   replace D_p0_6 := sa_more D_p0_6 hk [b4_19] (in_cons (hg.lo _ _ hb4) in_nil)
   replace D_v14_4 := sf_more D_v14_4 hk [b4_19] (in_cons (hg.lo _ _ hb4) in_nil)
   obtain ⟨v29_19, ev⟩ : ∃ v, sl a19 29 = v := ⟨_, rfl⟩
   rw [ev] at e29
   have D_v29_19 : Rd W19 (SF w [b4_19, b2_2, b1_2]) (V.d (objM ([Mb.mk (⟨#[104, 97, 115, 104, 101, 115]⟩) (hshO r.hs), Mb.mk (⟨#[108, 101, 110, 103, 116, 104]⟩) (V.mk (2) (r.ln) (⟨#[]⟩) ([]) ([]))]))) v29_19 := fr_end (M := [b2_2, b1_2]) e29 kw [b4_19] (in_cons ⟨_, hb4⟩ in_nil) (in_cons own_b2_2.lt (in_cons own_b1_2.lt in_nil))
   replace e29 := ev; clear ev
   obtain ⟨cn29_19a, cn29_19c, ci29_19a, ci29_19c, ev, ht_v29_19, D_cn29_19, D_ci29_19⟩ := rdV_out D_v29_19
   subst ev; clear D_v29_19
   replace e30 := e30.q
   replace own_b2_2 := own_b2_2.ext hk
   replace own_b1_2 := own_b1_2.ext hk
   replace kw := kw.x hk
   clear hR hk hg hP hb4
   refine tail_store (b := b4_19) (o := 0) (v := (.agg #[(.int .u8 ((objM ([Mb.mk (⟨#[104, 97, 115, 104, 101, 115]⟩) (hshO r.hs), Mb.mk (⟨#[108, 101, 110, 103, 116, 104]⟩) (V.mk (2) (r.ln) (⟨#[]⟩) ([]) ([]))])).k)), (.int .i64 ((objM ([Mb.mk (⟨#[104, 97, 115, 104, 101, 115]⟩) (hshO r.hs), Mb.mk (⟨#[108, 101, 110, 103, 116, 104]⟩) (V.mk (2) (r.ln) (⟨#[]⟩) ([]) ([]))])).n)), (.string ((objM ([Mb.mk (⟨#[104, 97, 115, 104, 101, 115]⟩) (hshO r.hs), Mb.mk (⟨#[108, 101, 110, 103, 116, 104]⟩) (V.mk (2) (r.ln) (⟨#[]⟩) ([]) ([]))])).t)), (.slice cn29_19a (((objM ([Mb.mk (⟨#[104, 97, 115, 104, 101, 115]⟩) (hshO r.hs), Mb.mk (⟨#[108, 101, 110, 103, 116, 104]⟩) (V.mk (2) (r.ln) (⟨#[]⟩) ([]) ([]))])).ns).length) cn29_19c), (.slice ci29_19a (((objM ([Mb.mk (⟨#[104, 97, 115, 104, 101, 115]⟩) (hshO r.hs), Mb.mk (⟨#[108, 101, 110, 103, 116, 104]⟩) (V.mk (2) (r.ln) (⟨#[]⟩) ([]) ([]))])).xs).length) ci29_19c)])) e4 e29 sz33 rfl own_b4_19 (lbr rfl) (all_cons rfl (all_cons rfl (all_cons rfl (all_cons rfl (all_cons rfl all_nil))))) (fun W20 hs own_b4_19 => ?_)
   have own_b4_19 : Own W20 b4_19 [(.int .u8 ((objM ([Mb.mk (⟨#[104, 97, 115, 104, 101, 115]⟩) (hshO r.hs), Mb.mk (⟨#[108, 101, 110, 103, 116, 104]⟩) (V.mk (2) (r.ln) (⟨#[]⟩) ([]) ([]))])).k)), (.int .i64 ((objM ([Mb.mk (⟨#[104, 97, 115, 104, 101, 115]⟩) (hshO r.hs), Mb.mk (⟨#[108, 101, 110, 103, 116, 104]⟩) (V.mk (2) (r.ln) (⟨#[]⟩) ([]) ([]))])).n)), (.string ((objM ([Mb.mk (⟨#[104, 97, 115, 104, 101, 115]⟩) (hshO r.hs), Mb.mk (⟨#[108, 101, 110, 103, 116, 104]⟩) (V.mk (2) (r.ln) (⟨#[]⟩) ([]) ([]))])).t)), (.slice cn29_19a (((objM ([Mb.mk (⟨#[104, 97, 115, 104, 101, 115]⟩) (hshO r.hs), Mb.mk (⟨#[108, 101, 110, 103, 116, 104]⟩) (V.mk (2) (r.ln) (⟨#[]⟩) ([]) ([]))])).ns).length) cn29_19c), (.slice ci29_19a (((objM ([Mb.mk (⟨#[104, 97, 115, 104, 101, 115]⟩) (hshO r.hs), Mb.mk (⟨#[108, 101, 110, 103, 116, 104]⟩) (V.mk (2) (r.ln) (⟨#[]⟩) ([]) ([]))])).xs).length) ci29_19c)] 33 := own_b4_19
   replace own_b2_2 := own_store own_b2_2 hs ne_b2_2_b4_19
   replace own_b1_2 := own_store own_b1_2 hs ne_b1_2_b4_19
   replace D_p0_1 := sa_store D_p0_1 hs (by simp)
   replace D_p0_5 := sa_store D_p0_5 hs (by simp)
   replace D_p0_6 := sa_store D_p0_6 hs (by simp)
   replace D_v14_4 := sf_store D_v14_4 hs (by simp)
   replace D_cn29_19 := sf_store D_cn29_19 hs (by simp)
   replace D_ci29_19 := sf_store D_ci29_19 hs (by simp)
   replace kw := keeps_store kw hs lo_b4_19
   clear hs
   refine tail_assign (v := (.int .i64 (objE ([Mb.mk (⟨#[104, 97, 115, 104, 101, 115]⟩) (hshO r.hs), Mb.mk (⟨#[108, 101, 110, 103, 116, 104]⟩) (V.mk (2) (r.ln) (⟨#[]⟩) ([]) ([]))])))) e30 (by rw [y19]; exact Nat.le_of_ble_eq_true rfl) (fun a21 y21 zz21 e5 hr => ?_)
   replace y21 := y21.trans y19; replace zz21 := zz21.trans zz19
   replace e2 := (hr 2 (by decide)).trans e2
   replace e4 := (hr 4 (by decide)).trans e4
   replace e29 := (hr 29 (by decide)).trans e29
   replace e30 := (hr 30 (by decide)).trans e30
   clear hr
   refine tail_nil (hK18 _ _ ?_)
   refine wp_seq_k fun K22 hK22 => ?_
   refine rg mixed y21 zz21 ?_
   refine .i (v := (.agg #[(.int .u8 ((objM ([Mb.mk (⟨#[104, 97, 115, 104, 101, 115]⟩) (hshO r.hs), Mb.mk (⟨#[108, 101, 110, 103, 116, 104]⟩) (V.mk (2) (r.ln) (⟨#[]⟩) ([]) ([]))])).k)), (.int .i64 ((objM ([Mb.mk (⟨#[104, 97, 115, 104, 101, 115]⟩) (hshO r.hs), Mb.mk (⟨#[108, 101, 110, 103, 116, 104]⟩) (V.mk (2) (r.ln) (⟨#[]⟩) ([]) ([]))])).n)), (.string ((objM ([Mb.mk (⟨#[104, 97, 115, 104, 101, 115]⟩) (hshO r.hs), Mb.mk (⟨#[108, 101, 110, 103, 116, 104]⟩) (V.mk (2) (r.ln) (⟨#[]⟩) ([]) ([]))])).t)), (.slice cn29_19a (((objM ([Mb.mk (⟨#[104, 97, 115, 104, 101, 115]⟩) (hshO r.hs), Mb.mk (⟨#[108, 101, 110, 103, 116, 104]⟩) (V.mk (2) (r.ln) (⟨#[]⟩) ([]) ([]))])).ns).length) cn29_19c), (.slice ci29_19a (((objM ([Mb.mk (⟨#[104, 97, 115, 104, 101, 115]⟩) (hshO r.hs), Mb.mk (⟨#[108, 101, 110, 103, 116, 104]⟩) (V.mk (2) (r.ln) (⟨#[]⟩) ([]) ([]))])).xs).length) ci29_19c)])) (loA (hbs rfl e4) own_b4_19 trivial agg33 sz33 rfl rfl) ?_
   refine .done ⟨by kernel_rfl, fun a23 g W23 y23 zz23 hk hg hV hR hP => ?_⟩
   obtain ⟨e31, -⟩ := hV
   replace e2 := (hR 2 rfl).trans e2
   replace D_cn29_19 := D_cn29_19.ext hk
   replace D_ci29_19 := D_ci29_19.ext hk
   replace e31 := e31.q
   replace own_b2_2 := own_b2_2.ext hk
   replace own_b1_2 := own_b1_2.ext hk
   replace own_b4_19 := own_b4_19.ext hk
   replace kw := kw.x hk
   clear hR hk hg hP
   refine tail_store (b := b2_2) (o := 0) (v := (.agg #[(.int .u8 ((objM ([Mb.mk (⟨#[104, 97, 115, 104, 101, 115]⟩) (hshO r.hs), Mb.mk (⟨#[108, 101, 110, 103, 116, 104]⟩) (V.mk (2) (r.ln) (⟨#[]⟩) ([]) ([]))])).k)), (.int .i64 ((objM ([Mb.mk (⟨#[104, 97, 115, 104, 101, 115]⟩) (hshO r.hs), Mb.mk (⟨#[108, 101, 110, 103, 116, 104]⟩) (V.mk (2) (r.ln) (⟨#[]⟩) ([]) ([]))])).n)), (.string ((objM ([Mb.mk (⟨#[104, 97, 115, 104, 101, 115]⟩) (hshO r.hs), Mb.mk (⟨#[108, 101, 110, 103, 116, 104]⟩) (V.mk (2) (r.ln) (⟨#[]⟩) ([]) ([]))])).t)), (.slice cn29_19a (((objM ([Mb.mk (⟨#[104, 97, 115, 104, 101, 115]⟩) (hshO r.hs), Mb.mk (⟨#[108, 101, 110, 103, 116, 104]⟩) (V.mk (2) (r.ln) (⟨#[]⟩) ([]) ([]))])).ns).length) cn29_19c), (.slice ci29_19a (((objM ([Mb.mk (⟨#[104, 97, 115, 104, 101, 115]⟩) (hshO r.hs), Mb.mk (⟨#[108, 101, 110, 103, 116, 104]⟩) (V.mk (2) (r.ln) (⟨#[]⟩) ([]) ([]))])).xs).length) ci29_19c)])) e2 e31 sz33 rfl own_b2_2 (lbr rfl) (all_cons rfl (all_cons rfl (all_cons rfl (all_cons rfl (all_cons rfl all_nil))))) (fun W24 hs own_b2_2 => ?_)
   have own_b2_2 : Own W24 b2_2 [(.int .u8 ((objM ([Mb.mk (⟨#[104, 97, 115, 104, 101, 115]⟩) (hshO r.hs), Mb.mk (⟨#[108, 101, 110, 103, 116, 104]⟩) (V.mk (2) (r.ln) (⟨#[]⟩) ([]) ([]))])).k)), (.int .i64 ((objM ([Mb.mk (⟨#[104, 97, 115, 104, 101, 115]⟩) (hshO r.hs), Mb.mk (⟨#[108, 101, 110, 103, 116, 104]⟩) (V.mk (2) (r.ln) (⟨#[]⟩) ([]) ([]))])).n)), (.string ((objM ([Mb.mk (⟨#[104, 97, 115, 104, 101, 115]⟩) (hshO r.hs), Mb.mk (⟨#[108, 101, 110, 103, 116, 104]⟩) (V.mk (2) (r.ln) (⟨#[]⟩) ([]) ([]))])).t)), (.slice cn29_19a (((objM ([Mb.mk (⟨#[104, 97, 115, 104, 101, 115]⟩) (hshO r.hs), Mb.mk (⟨#[108, 101, 110, 103, 116, 104]⟩) (V.mk (2) (r.ln) (⟨#[]⟩) ([]) ([]))])).ns).length) cn29_19c), (.slice ci29_19a (((objM ([Mb.mk (⟨#[104, 97, 115, 104, 101, 115]⟩) (hshO r.hs), Mb.mk (⟨#[108, 101, 110, 103, 116, 104]⟩) (V.mk (2) (r.ln) (⟨#[]⟩) ([]) ([]))])).xs).length) ci29_19c)] 33 := own_b2_2
   replace own_b1_2 := own_store own_b1_2 hs ne_b2_2_b1_2.symm
   replace own_b4_19 := own_store own_b4_19 hs ne_b2_2_b4_19.symm
   replace D_cn29_19 := sf_store D_cn29_19 hs (by simp)
   replace D_ci29_19 := sf_store D_ci29_19 hs (by simp)
   replace kw := keeps_store kw hs lo_b2_2
   clear hs
   refine tail_nil (hK22 _ _ ?_)
   refine wp_ret ?_
   refine (show bodyPost Try.prog Try.f132 _ .ret _ _ from retC (v := (.agg #[(.int .u8 ((objM ([Mb.mk (⟨#[104, 97, 115, 104, 101, 115]⟩) (hshO r.hs), Mb.mk (⟨#[108, 101, 110, 103, 116, 104]⟩) (V.mk (2) (r.ln) (⟨#[]⟩) ([]) ([]))])).k)), (.int .i64 ((objM ([Mb.mk (⟨#[104, 97, 115, 104, 101, 115]⟩) (hshO r.hs), Mb.mk (⟨#[108, 101, 110, 103, 116, 104]⟩) (V.mk (2) (r.ln) (⟨#[]⟩) ([]) ([]))])).n)), (.string ((objM ([Mb.mk (⟨#[104, 97, 115, 104, 101, 115]⟩) (hshO r.hs), Mb.mk (⟨#[108, 101, 110, 103, 116, 104]⟩) (V.mk (2) (r.ln) (⟨#[]⟩) ([]) ([]))])).t)), (.slice cn29_19a (((objM ([Mb.mk (⟨#[104, 97, 115, 104, 101, 115]⟩) (hshO r.hs), Mb.mk (⟨#[108, 101, 110, 103, 116, 104]⟩) (V.mk (2) (r.ln) (⟨#[]⟩) ([]) ([]))])).ns).length) cn29_19c), (.slice ci29_19a (((objM ([Mb.mk (⟨#[104, 97, 115, 104, 101, 115]⟩) (hshO r.hs), Mb.mk (⟨#[108, 101, 110, 103, 116, 104]⟩) (V.mk (2) (r.ln) (⟨#[]⟩) ([]) ([]))])).xs).length) ci29_19c)])) rfl zz23 e2 own_b2_2 agg33 sz33 rfl (fun h => by cases h) rfl ⟨_, rfl, kw, ?_⟩)
   rw [show recO r = (objM ([Mb.mk (⟨#[104, 97, 115, 104, 101, 115]⟩) (hshO r.hs), Mb.mk (⟨#[108, 101, 110, 103, 116, 104]⟩) (V.mk (2) (r.ln) (⟨#[]⟩) ([]) ([]))])) by rw [recO, hrl]; rfl]
   exact sf_fr (rdV_in (x := (objM ([Mb.mk (⟨#[104, 97, 115, 104, 101, 115]⟩) (hshO r.hs), Mb.mk (⟨#[108, 101, 110, 103, 116, 104]⟩) (V.mk (2) (r.ln) (⟨#[]⟩) ([]) ([]))]))) ht_v29_19 D_cn29_19 D_ci29_19 : Rd W24 (SF w [b4_19, b2_2, b1_2]) (V.d ((objM ([Mb.mk (⟨#[104, 97, 115, 104, 101, 115]⟩) (hshO r.hs), Mb.mk (⟨#[108, 101, 110, 103, 116, 104]⟩) (V.mk (2) (r.ln) (⟨#[]⟩) ([]) ([]))])))) _)
end Go.Proofs.Ytnobijngkpflcaa
namespace Go.Proofs.Ytnobijngkpflcaa
open Go.Eng
set_option maxRecDepth 100000 in
theorem MayR_ok (r : Rc) (hcu : r.cu.wt ≤ 1000000000) (w : World) (S : BSet) (v : Value) (hS : ∀ b o, S b o → Cln o) (hv : Rd w S r.d v) : Calls Try.prog 70 #[v] w (Ret w fun u _ => u = .bool (mayR r)) := by
  obtain ⟨p0_1a, p0_1c, p0_5a, p0_5c, p0_6a, p0_6c, ev, hb_p0_4, D_p0_1, D_p0_5, D_p0_6⟩ := rdRc_out (rd_arg hv)
  subst ev
  refine enter Try.func70 rfl Try.ntmps70 (lbr rfl) fun a0 y0 zz0 harg => ?_
  have e0 : sl a0 0 = (.agg #[(.int .i64 (r.ln)), (.slice p0_1a (r.hs.length) p0_1c), (.int .u8 (r.cu.k)), (.int .i64 (r.cu.n)), (.string (r.cu.t)), (.slice p0_5a (r.cu.ns.length) p0_5c), (.slice p0_6a (r.cu.xs.length) p0_6c)]) := harg 0 (lbr rfl)
  have kw := Keeps.refl All w
  clear harg
  refine wp_seq_k fun K1 hK1 => ?_
  refine rg mixed y0 zz0 ?_
  refine .boxOp (v := (.agg #[(.int .i64 (r.ln)), (.slice p0_1a (r.hs.length) p0_1c), (.int .u8 (r.cu.k)), (.int .i64 (r.cu.n)), (.string (r.cu.t)), (.slice p0_5a (r.cu.ns.length) p0_5c), (.slice p0_6a (r.cu.xs.length) p0_6c)])) (hbs rfl e0) ?_
  refine .i (sp_assign Has.cst) ?_
  refine .done ⟨by kernel_rfl, fun a2 g W2 y2 zz2 hk hg hV hR hP => ?_⟩
  obtain ⟨-, ⟨b1_2, e1, hb1, own_b1_2⟩, -⟩ := hV
  have lo_b1_2 : w.heap.size ≤ b1_2 := Nat.le_trans kw.size (hg.lo _ _ hb1)
  have own_b1_2 : Own W2 b1_2 [(.int .i64 (r.ln)), (.slice p0_1a (r.hs.length) p0_1c), (.int .u8 (r.cu.k)), (.int .i64 (r.cu.n)), (.string (r.cu.t)), (.slice p0_5a (r.cu.ns.length) p0_5c), (.slice p0_6a (r.cu.xs.length) p0_6c)] 87 := own_b1_2
  replace D_p0_1 := sa_more D_p0_1 hk [b1_2] (in_cons (hg.lo _ _ hb1) in_nil)
  replace D_p0_5 := sa_more D_p0_5 hk [b1_2] (in_cons (hg.lo _ _ hb1) in_nil)
  replace D_p0_6 := sa_more D_p0_6 hk [b1_2] (in_cons (hg.lo _ _ hb1) in_nil)
  replace kw := kw.x hk
  clear hR hk hg hP hb1
  refine tail_nil (hK1 _ _ ?_)
  refine wp_seq_k fun K3 hK3 => ?_
  refine wp_seq_k fun K4 hK4 => ?_
  refine rg mixed y2 zz2 ?_
  refine .i (fo 0 (hbs rfl e1) Try.underlying87 rfl sz2 rfl) ?_
  refine .i (lo1 (hlc rfl) own_b1_2 trivial agg2 sz2 rfl) ?_
  refine .i (sp_lss (hlc rfl) Has.cst) ?_
  refine .i (sp_move (hlc rfl)) ?_
  refine .e (t := 6) rfl (hlc rfl) (fun hg => fo 0 (hbs rfl e1) Try.underlying87 rfl sz2 rfl) ?_
  refine .e (t := 6) rfl (hlc rfl) (fun hg => lo1 ((hlc rfl).undE hg) own_b1_2 trivial agg2 sz2 rfl) ?_
  refine .e (t := 6) rfl (hlc rfl) (fun hg => sp_gtr ((hlc rfl).undE hg) Has.cst) ?_
  refine .i (sp_or (hlc rfl) ((hlc rfl).weak fun hq => hq)) ?_
  refine .i (sp_move (hlc rfl)) ?_
  refine .e (t := 11) rfl (hlc rfl) (fun hg => fo 1 (hbs rfl e1) Try.underlying87 rfl sz85 rfl) ?_
  refine .e (t := 11) rfl (hlc rfl) (fun hg => lo1 ((hlc rfl).undE hg) own_b1_2 trivial agg85 sz85 rfl) ?_
  refine .e (t := 11) (v := (.bool (mayH r.hs))) rfl (hlc rfl) (fun hg => sp_call1 (φ1 := IsD (SA w S [b1_2]) (hssD (r.hs))) ent69 (((hlc rfl).undE hg).dat D_p0_1 sub_all) (fun g u1 W hk hgk h1 => MayHashes_ok (r.hs) W _ _ h1)) ?_
  refine .e (t := 11) rfl (hlc rfl) (fun hg => sp_not ((hlc rfl).undE hg)) ?_
  refine .i (sp_or (hlc rfl) ((hlc rfl).weak fun hq => hq)) ?_
  refine .done ⟨by kernel_rfl, fun a5 g W5 y5 zz5 hk hg hV hR hP => ?_⟩
  obtain ⟨e16, -, -, -, -, -, -, -, -, -, -, -, -, -, -⟩ := hV
  replace e1 := (hR 1 rfl).trans e1
  replace D_p0_1 := D_p0_1.ext hk
  replace D_p0_5 := D_p0_5.ext hk
  replace D_p0_6 := D_p0_6.ext hk
  replace e16 := e16.q
  replace own_b1_2 := own_b1_2.ext hk
  replace kw := kw.x hk
  clear hR hk hg hP
  refine tail_nil (hK4 _ _ ?_)
  refine wp_cond_split e16 (fun hc => ?_) (fun hc => ?_)
  ·
   have hfin : mayR r = false := by rw [mayR, if_pos]; simp at hc; rcases hc with (h | h) | h; exact .inl h; exact .inr (.inl h); exact .inr (.inr h)
   refine wp_seq_k fun K6 hK6 => ?_
   refine rg mixed y5 zz5 ?_
   refine .i (sp_assign Has.cst) ?_
   refine .done ⟨by kernel_rfl, fun a7 g W7 y7 zz7 hk hg hV hR hP => ?_⟩
   obtain ⟨e2, -⟩ := hV
   replace D_p0_1 := D_p0_1.ext hk
   replace D_p0_5 := D_p0_5.ext hk
   replace D_p0_6 := D_p0_6.ext hk
   have e2 : sl a7 2 = (.bool (false)) := e2
   replace own_b1_2 := own_b1_2.ext hk
   replace kw := kw.x hk
   clear hR hk hg hP
   refine tail_nil (hK6 _ _ ?_)
   refine wp_ret ?_
   refine (show bodyPost Try.prog Try.f70 _ .ret _ _ from ret1 rfl zz7 e2 ⟨_, rfl, kw, ?_⟩)
   rw [hfin]
  ·
   have hno : ¬ (r.ln < 0 ∨ 1099511627776 < r.ln ∨ mayH r.hs = false) := by simp at hc; rintro (h | h | h); omega; omega; rw [hc.2] at h; cases h
   have hmh : mayH r.hs = true := by simp at hc; exact hc.2
   refine wp_skip (hK3 _ _ ?_)
   refine wp_seq_k fun K8 hK8 => ?_
   refine wp_seq_k fun K9 hK9 => ?_
   refine rg mixed y5 zz5 ?_
   refine .i (fo 2 (hbs rfl e1) Try.underlying87 rfl sz33 rfl) ?_
   refine .i (v := (.agg #[(.int .u8 (r.cu.k)), (.int .i64 (r.cu.n)), (.string (r.cu.t)), (.slice p0_5a (r.cu.ns.length) p0_5c), (.slice p0_6a (r.cu.xs.length) p0_6c)])) (loA (hlc rfl) own_b1_2 trivial agg33 sz33 rfl rfl) ?_
   refine .i (v := (.bool (noneB (r.cu)))) (sp_call1 (φ1 := IsD (SA w S [b1_2]) (V.d (r.cu))) ent131 ((hlc rfl).dat (rdV_in (x := r.cu) hb_p0_4 D_p0_5 D_p0_6 : Rd W5 (SA w S [b1_2]) (V.d (r.cu)) _) sub_all) (fun g u1 W hk hgk h1 => none_ok (r.cu) W _ _ h1)) ?_
   refine .i (sp_not (hlc rfl)) ?_
   refine .i (sp_move (hlc rfl)) ?_
   refine .e (t := 21) rfl (hlc rfl) (fun hg => fo 2 (hbs rfl e1) Try.underlying87 rfl sz33 rfl) ?_
   refine .e (t := 21) (v := (.agg #[(.int .u8 (r.cu.k)), (.int .i64 (r.cu.n)), (.string (r.cu.t)), (.slice p0_5a (r.cu.ns.length) p0_5c), (.slice p0_6a (r.cu.xs.length) p0_6c)])) rfl (hlc rfl) (fun hg => loA ((hlc rfl).undE hg) own_b1_2 trivial agg33 sz33 rfl rfl) ?_
   refine .e (t := 21) (v := (.bool (mayB (r.cu)))) rfl (hlc rfl) (fun hg => sp_call1 (φ1 := IsD (SA w S [b1_2]) (V.d (r.cu))) ent76 (((hlc rfl).undE hg).dat (rdV_in (x := r.cu) hb_p0_4 D_p0_5 D_p0_6 : Rd W5 (SA w S [b1_2]) (V.d (r.cu)) _) sub_all) (fun g u1 W hk hgk h1 => May_ok (r.cu) (Nat.le_trans (cnt_wt _) (Nat.le_trans hcu (by decide))) W _ _ h1)) ?_
   refine .e (t := 21) rfl (hlc rfl) (fun hg => sp_not ((hlc rfl).undE hg)) ?_
   refine .i (sp_and (hlc rfl) ((hlc rfl).weak fun hq => hq)) ?_
   refine .done ⟨by kernel_rfl, fun a10 g W10 y10 zz10 hk hg hV hR hP => ?_⟩
   obtain ⟨e26, -, -, -, -, -, -, -, -, -, -⟩ := hV
   replace e1 := (hR 1 rfl).trans e1
   replace D_p0_1 := D_p0_1.ext hk
   replace D_p0_5 := D_p0_5.ext hk
   replace D_p0_6 := D_p0_6.ext hk
   replace e26 := e26.q
   replace own_b1_2 := own_b1_2.ext hk
   replace kw := kw.x hk
   clear hR hk hg hP
   refine tail_nil (hK9 _ _ ?_)
   refine wp_cond_split e26 (fun hc => ?_) (fun hc => ?_)
   ·
    have hfin : mayR r = false := by rw [mayR, if_neg hno, if_pos]; simpa using hc
    refine wp_seq_k fun K11 hK11 => ?_
    refine rg mixed y10 zz10 ?_
    refine .i (sp_assign Has.cst) ?_
    refine .done ⟨by kernel_rfl, fun a12 g W12 y12 zz12 hk hg hV hR hP => ?_⟩
    obtain ⟨e2, -⟩ := hV
    replace D_p0_1 := D_p0_1.ext hk
    replace D_p0_5 := D_p0_5.ext hk
    replace D_p0_6 := D_p0_6.ext hk
    have e2 : sl a12 2 = (.bool (false)) := e2
    replace own_b1_2 := own_b1_2.ext hk
    replace kw := kw.x hk
    clear hR hk hg hP
    refine tail_nil (hK11 _ _ ?_)
    refine wp_ret ?_
    refine (show bodyPost Try.prog Try.f70 _ .ret _ _ from ret1 rfl zz12 e2 ⟨_, rfl, kw, ?_⟩)
    rw [hfin]
   ·
    have hfin : mayR r = mayB (recO r) := by rw [mayR, if_neg hno, if_neg]; simp at hc; rintro ⟨h1, h2⟩; rw [hc h1] at h2; cases h2
    refine wp_skip (hK8 _ _ ?_)
    refine wp_seq_k fun K13 hK13 => ?_
    refine rg mixed y10 zz10 ?_
    refine .i (v := (.agg #[(.int .i64 (r.ln)), (.slice p0_1a (r.hs.length) p0_1c), (.int .u8 (r.cu.k)), (.int .i64 (r.cu.n)), (.string (r.cu.t)), (.slice p0_5a (r.cu.ns.length) p0_5c), (.slice p0_6a (r.cu.xs.length) p0_6c)])) (loA (hbs rfl e1) own_b1_2 trivial agg87 sz87 rfl rfl) ?_
    refine .da (X := Fr W10) (e := V.d (recO r)) (sp_call1 (φ1 := IsD (SA w S [b1_2]) (Rc.d (r))) ent132 ((hlc rfl).dat (rdRc_mk D_p0_1 (rdV_in (x := r.cu) hb_p0_4 D_p0_5 D_p0_6 : Rd W10 (SA w S [b1_2]) (V.d (r.cu)) _) : Rd W10 (SA w S [b1_2]) (Rc.d (r)) _) sub_all) (fun g u1 W hk hgk h1 => (object21_ok (r) hmh hcu W _ _ (fun b o h => sa_cln hS b o h.1) h1).mono (ret_fr hk hgk))) ?_
    refine .i (v := (.bool (mayB (recO r)))) (sp_call1 (φ1 := IsD (Fr W10) (V.d (recO r))) ent76 (hlc rfl) (fun g u1 W hk hgk h1 => May_ok (recO r) (Nat.le_trans (cnt_wt _) (recO_wt hmh hcu)) W _ _ h1)) ?_
    refine .i (sp_assign (hlc rfl)) ?_
    refine .done ⟨by kernel_rfl, fun a14 g W14 y14 zz14 hk hg hV hR hP => ?_⟩
    obtain ⟨e2, -, -, -, -⟩ := hV
    replace D_p0_1 := D_p0_1.ext hk
    replace D_p0_5 := D_p0_5.ext hk
    replace D_p0_6 := D_p0_6.ext hk
    have e2 : sl a14 2 = (.bool (mayB (recO r))) := e2
    replace own_b1_2 := own_b1_2.ext hk
    replace kw := kw.x hk
    clear hR hk hg hP
    refine tail_nil (hK13 _ _ ?_)
    refine wp_ret ?_
    refine (show bodyPost Try.prog Try.f70 _ .ret _ _ from ret1 rfl zz14 e2 ⟨_, rfl, kw, ?_⟩)
    rw [hfin]
set_option maxRecDepth 100000 in
theorem SameR_ok (p q : Rc) (hp : p.cu.wt ≤ 1073741824) (hq : q.cu.wt ≤ 1073741824) (w : World) (S : BSet) (v u : Value) (hS : ∀ b o, S b o → Cln o) (hv : Rd w S p.d v) (hu : Rd w S q.d u) : Calls Try.prog 59 #[v, u] w (Ret w fun r _ => r = .bool (sameR p q)) := by
  have hp1 := Nat.le_trans (cnt_wt p.cu) hp
  have hq1 := Nat.le_trans (cnt_wt q.cu) hq
  obtain ⟨p0_1a, p0_1c, p0_5a, p0_5c, p0_6a, p0_6c, ev, hb_p0_4, D_p0_1, D_p0_5, D_p0_6⟩ := rdRc_out (rd_arg hv)
  subst ev
  obtain ⟨p1_1a, p1_1c, p1_5a, p1_5c, p1_6a, p1_6c, ev, hb_p1_4, D_p1_1, D_p1_5, D_p1_6⟩ := rdRc_out (rd_arg hu)
  subst ev
  refine enter Try.func59 rfl Try.ntmps59 (lbr rfl) fun a0 y0 zz0 harg => ?_
  have e0 : sl a0 0 = (.agg #[(.int .i64 (p.ln)), (.slice p0_1a (p.hs.length) p0_1c), (.int .u8 (p.cu.k)), (.int .i64 (p.cu.n)), (.string (p.cu.t)), (.slice p0_5a (p.cu.ns.length) p0_5c), (.slice p0_6a (p.cu.xs.length) p0_6c)]) := harg 0 (lbr rfl)
  have e1 : sl a0 1 = (.agg #[(.int .i64 (q.ln)), (.slice p1_1a (q.hs.length) p1_1c), (.int .u8 (q.cu.k)), (.int .i64 (q.cu.n)), (.string (q.cu.t)), (.slice p1_5a (q.cu.ns.length) p1_5c), (.slice p1_6a (q.cu.xs.length) p1_6c)]) := harg 1 (lbr rfl)
  have kw := Keeps.refl All w
  clear harg
  refine wp_seq_k fun K1 hK1 => ?_
  refine rg mixed y0 zz0 ?_
  refine .boxOp (v := (.agg #[(.int .i64 (p.ln)), (.slice p0_1a (p.hs.length) p0_1c), (.int .u8 (p.cu.k)), (.int .i64 (p.cu.n)), (.string (p.cu.t)), (.slice p0_5a (p.cu.ns.length) p0_5c), (.slice p0_6a (p.cu.xs.length) p0_6c)])) (hbs rfl e0) ?_
  refine .boxOp (v := (.agg #[(.int .i64 (q.ln)), (.slice p1_1a (q.hs.length) p1_1c), (.int .u8 (q.cu.k)), (.int .i64 (q.cu.n)), (.string (q.cu.t)), (.slice p1_5a (q.cu.ns.length) p1_5c), (.slice p1_6a (q.cu.xs.length) p1_6c)])) (hbs rfl e1) ?_
  refine .i (sp_assign Has.cst) ?_
  refine .done ⟨by kernel_rfl, fun a2 g W2 y2 zz2 hk hg hV hR hP => ?_⟩
  obtain ⟨-, ⟨b3_2, e3, hb3, own_b3_2⟩, ⟨b2_2, e2, hb2, own_b2_2⟩, -⟩ := hV
  have lo_b3_2 : w.heap.size ≤ b3_2 := Nat.le_trans kw.size (hg.lo _ _ hb3)
  have own_b3_2 : Own W2 b3_2 [(.int .i64 (q.ln)), (.slice p1_1a (q.hs.length) p1_1c), (.int .u8 (q.cu.k)), (.int .i64 (q.cu.n)), (.string (q.cu.t)), (.slice p1_5a (q.cu.ns.length) p1_5c), (.slice p1_6a (q.cu.xs.length) p1_6c)] 87 := own_b3_2
  have lo_b2_2 : w.heap.size ≤ b2_2 := Nat.le_trans kw.size (hg.lo _ _ hb2)
  have own_b2_2 : Own W2 b2_2 [(.int .i64 (p.ln)), (.slice p0_1a (p.hs.length) p0_1c), (.int .u8 (p.cu.k)), (.int .i64 (p.cu.n)), (.string (p.cu.t)), (.slice p0_5a (p.cu.ns.length) p0_5c), (.slice p0_6a (p.cu.xs.length) p0_6c)] 87 := own_b2_2
  have ne_b3_2_b2_2 : b3_2 ≠ b2_2 := fun h => by have := hg.inj _ _ _ hb3 (h ▸ hb2); cases this
  replace D_p0_1 := sa_more D_p0_1 hk [b3_2, b2_2] (in_cons (hg.lo _ _ hb3) (in_cons (hg.lo _ _ hb2) in_nil))
  replace D_p0_5 := sa_more D_p0_5 hk [b3_2, b2_2] (in_cons (hg.lo _ _ hb3) (in_cons (hg.lo _ _ hb2) in_nil))
  replace D_p0_6 := sa_more D_p0_6 hk [b3_2, b2_2] (in_cons (hg.lo _ _ hb3) (in_cons (hg.lo _ _ hb2) in_nil))
  replace D_p1_1 := sa_more D_p1_1 hk [b3_2, b2_2] (in_cons (hg.lo _ _ hb3) (in_cons (hg.lo _ _ hb2) in_nil))
  replace D_p1_5 := sa_more D_p1_5 hk [b3_2, b2_2] (in_cons (hg.lo _ _ hb3) (in_cons (hg.lo _ _ hb2) in_nil))
  replace D_p1_6 := sa_more D_p1_6 hk [b3_2, b2_2] (in_cons (hg.lo _ _ hb3) (in_cons (hg.lo _ _ hb2) in_nil))
  replace kw := kw.x hk
  clear hR hk hg hP hb3 hb2
  refine tail_nil (hK1 _ _ ?_)
  refine wp_seq_k fun K3 hK3 => ?_
  refine rg mixed y2 zz2 ?_
  refine .i (fo 0 (hbs rfl e2) Try.underlying87 rfl sz2 rfl) ?_
  refine .i (lo1 (hlc rfl) own_b2_2 trivial agg2 sz2 rfl) ?_
  refine .i (fo 0 (hbs rfl e3) Try.underlying87 rfl sz2 rfl) ?_
  refine .i (lo1 (hlc rfl) own_b3_2 trivial agg2 sz2 rfl) ?_
  refine .i (sp_eql (hlc rfl) (hlc rfl)) ?_
  refine .i (sp_move (hlc rfl)) ?_
  refine .e (t := 10) rfl (hlc rfl) (fun hg => fo 1 (hbs rfl e2) Try.underlying87 rfl sz85 rfl) ?_
  refine .e (t := 10) rfl (hlc rfl) (fun hg => lo1 ((hlc rfl).undE hg) own_b2_2 trivial agg85 sz85 rfl) ?_
  refine .e (t := 10) rfl (hlc rfl) (fun hg => fo 1 (hbs rfl e3) Try.underlying87 rfl sz85 rfl) ?_
  refine .e (t := 10) rfl (hlc rfl) (fun hg => lo1 ((hlc rfl).undE hg) own_b3_2 trivial agg85 sz85 rfl) ?_
  refine .e (t := 10) (v := (.bool (sameH p.hs q.hs))) rfl (hlc rfl) (fun hg => sp_call2 (φ1 := IsD (SA w S [b3_2, b2_2]) (hssD (p.hs))) (φ2 := IsD (SA w S [b3_2, b2_2]) (hssD (q.hs))) ent120 (((hlc rfl).undE hg).dat D_p0_1 sub_all) (((hlc rfl).undE hg).dat D_p1_1 sub_all) (fun g u1 u2 W hk hgk h1 h2 => sameHs_ok (p.hs) (q.hs) W _ _ _ h1 h2)) ?_
  refine .i (sp_and (hlc rfl) ((hlc rfl).weak fun hq => hq)) ?_
  refine .i (sp_move (hlc rfl)) ?_
  refine .e (t := 17) rfl (hlc rfl) (fun hg => fo 2 (hbs rfl e2) Try.underlying87 rfl sz33 rfl) ?_
  refine .e (t := 17) (v := (.agg #[(.int .u8 (p.cu.k)), (.int .i64 (p.cu.n)), (.string (p.cu.t)), (.slice p0_5a (p.cu.ns.length) p0_5c), (.slice p0_6a (p.cu.xs.length) p0_6c)])) rfl (hlc rfl) (fun hg => loA ((hlc rfl).undE hg) own_b2_2 trivial agg33 sz33 rfl rfl) ?_
  refine .e (t := 17) rfl (hlc rfl) (fun hg => fo 2 (hbs rfl e3) Try.underlying87 rfl sz33 rfl) ?_
  refine .e (t := 17) (v := (.agg #[(.int .u8 (q.cu.k)), (.int .i64 (q.cu.n)), (.string (q.cu.t)), (.slice p1_5a (q.cu.ns.length) p1_5c), (.slice p1_6a (q.cu.xs.length) p1_6c)])) rfl (hlc rfl) (fun hg => loA ((hlc rfl).undE hg) own_b3_2 trivial agg33 sz33 rfl rfl) ?_
  refine .e (t := 17) (v := (.bool (V.beq (p.cu) (q.cu)))) rfl (hlc rfl) (fun hg => sp_call2 (φ1 := IsD (SA w S [b3_2, b2_2]) (V.d (p.cu))) (φ2 := IsD (SA w S [b3_2, b2_2]) (V.d (q.cu))) ent121 (((hlc rfl).undE hg).dat (rdV_in (x := p.cu) hb_p0_4 D_p0_5 D_p0_6 : Rd W2 (SA w S [b3_2, b2_2]) (V.d (p.cu)) _) sub_all) (((hlc rfl).undE hg).dat (rdV_in (x := q.cu) hb_p1_4 D_p1_5 D_p1_6 : Rd W2 (SA w S [b3_2, b2_2]) (V.d (q.cu)) _) sub_all) (fun g u1 u2 W hk hgk h1 h2 => Same_ok (p.cu) (q.cu) (by first | omega | exact Nat.le_of_ble_eq_true (by kernel_rfl)) (by first | omega | exact Nat.le_of_ble_eq_true (by kernel_rfl)) W _ _ _ (fun b o h => sa_cln hS b o h.1) h1 h2)) ?_
  refine .i (sp_and (hlc rfl) ((hlc rfl).weak fun hq => hq)) ?_
  refine .i (sp_assign (hlc rfl)) ?_
  refine .done ⟨by kernel_rfl, fun a4 g W4 y4 zz4 hk hg hV hR hP => ?_⟩
  obtain ⟨e4, -, -, -, -, -, -, -, -, -, -, -, -, -, -, -, -, -, -, -, -⟩ := hV
  replace D_p0_1 := D_p0_1.ext hk
  replace D_p0_5 := D_p0_5.ext hk
  replace D_p0_6 := D_p0_6.ext hk
  replace D_p1_1 := D_p1_1.ext hk
  replace D_p1_5 := D_p1_5.ext hk
  replace D_p1_6 := D_p1_6.ext hk
  replace e4 := e4.q
  replace own_b3_2 := own_b3_2.ext hk
  replace own_b2_2 := own_b2_2.ext hk
  replace kw := kw.x hk
  clear hR hk hg hP
  refine tail_nil (hK3 _ _ ?_)
  refine wp_ret ?_
  refine (show bodyPost Try.prog Try.f59 _ .ret _ _ from ret1 rfl zz4 e4 ⟨_, rfl, kw, ?_⟩)
  refine congrArg Value.bool ?_
  rw [Bool.eq_iff_iff]
  simp [sameR, and_assoc]
end Go.Proofs.Ytnobijngkpflcaa
namespace Go.Eng
theorem run_sameAddr_any {P : Program} {W : World} {a b : Addr} {ca cb : Array Value} {ta tb : TypeId} {fa fb : Nat × Nat} (ha : W.heap[a.block]? = some (.cells ca ta fa)) (hb : W.heap[b.block]? = some (.cells cb tb fb)) (hf : W.frozen? a = false) :
    ∃ r W', (sameAddr a b).run P W = .ok r W' ∧ Ext W W' := by
  by_cases hbl : a.block = b.block
  · exact ⟨a == b, W, by simp [sameAddr, hbl], .refl _ _⟩
  · by_cases hq : (mayBeOne a b).run P W = .ok true W
    · by_cases hfo : (Question.extern "sameAddr.stringBytes" 2).forced = true
      · exact ⟨false, W, by simp [sameAddr, hbl, hf, noView, viewAt, World.shape?, ha, hb, hq, hfo], .refl _ _⟩
      · exact ⟨_, W.drew, by simp [sameAddr, hbl, hf, noView, viewAt, World.shape?, ha, hb, hq, hfo]; rfl, .drew _⟩
    · refine ⟨false, W, ?_, .refl _ _⟩
      have hq2 : (mayBeOne a b).run P W = .ok false W := by
        have : ∃ q, (mayBeOne a b).run P W = .ok q W := by
          cases hs : W.frozen? b <;> simp [mayBeOne, stringish, hf, hs, World.shape?, ha, hb]
        obtain ⟨q, h3⟩ := this
        cases q with
        | true => exact absurd h3 hq
        | false => exact h3
      simp [sameAddr, hbl, hf, noView, viewAt, World.shape?, ha, hb, hq2]
def NV (u : World) : Nat → Value → Prop
  | 0, _ => True
  | n + 1, v => ∀ a len cap, v = .slice (some a) len cap → ∀ i, i < len → (a.block < u.heap.size ∧ u.frozen? ⟨a.block, a.off + i * 5, none⟩ = false ∧ ∀ c, u.cell? ⟨a.block, a.off + i * 5 + 4, none⟩ = some c → NV u n c)
def AV (u : World) (v : Value) : Prop := ∀ n, NV u n v
def QV (u : World) (b o : Nat) : Prop := b < u.heap.size ∧ u.frozen? ⟨b, o, none⟩ = false ∧ ∀ c, u.cell? ⟨b, o + 4, none⟩ = some c → AV u c
theorem AV.idx {u : World} {a : Addr} {len cap i : Nat} (h : AV u (.slice (some a) len cap)) (hi : i < len) : QV u a.block (a.off + i * 5) :=
  ⟨(h 1 a len cap rfl i hi).1, (h 1 a len cap rfl i hi).2.1, fun c hc n => (h (n + 1) a len cap rfl i hi).2.2 c hc⟩
def Pin (u : World) (S : BSet) : Prop := ∀ b o, S b o → b < u.heap.size → o = u.heap[b]?
theorem cell_pin {u W : World} {S : BSet} (hp : Pin u S) {b o : Nat} (hb : S b W.heap[b]?) (hl : b < u.heap.size) : W.cell? ⟨b, o, none⟩ = u.cell? ⟨b, o, none⟩ := by
  have := hp b _ hb hl
  unfold World.cell?
  simp only [this]
theorem frozen_pin {u W : World} {S : BSet} (hp : Pin u S) {b o : Nat} (hb : S b W.heap[b]?) (hl : b < u.heap.size) : W.frozen? ⟨b, o, none⟩ = u.frozen? ⟨b, o, none⟩ := by
  have := hp b _ hb hl
  unfold World.frozen?
  simp only [this]
section
variable {P : Program} {ops : Array Oper} {S : Nat → Prop} {w0 : World} {a0 : Act} {Γ : Ctx}
variable {d : Option Tmp} {ty : TypeId} {pos : String} {af : Array Edge} {gd : Option (Nat × Bool)}
theorem sp_indexP {x y : Operand} {T E : TypeId} {b o n cap i : Nat} (hx : Has S w0 a0 Γ x (Is (.slice (some ⟨b, o, none⟩) n cap))) (hy : Has S w0 a0 Γ y (Is (.int .i64 i))) (hT : P.underlying T = some (.slice E)) (hz : szOf P E = some 5)
    (hi : i < n) : Spec P ops S w0 a0 Γ ⟨d, .indexAddr T x y, ty, pos, af, gd⟩ (Is (.pointer (some ⟨b, o + i * 5, none⟩))) := sp_val fun a g W hk hg he => by
  have e1 : a.eval x = .slice (some ⟨b, o, none⟩) n cap := hx.of_env hk hg he (by simp [Op.operands])
  have e2 : a.eval y = .int .i64 i := hy.of_env hk hg he (by simp [Op.operands])
  simp [execOp, e1, e2, Instr.indexAt, asIntOf, run_und hT, hi, run_szOf hz, add_none]
theorem sp_loadP {x : Operand} {T : TypeId} {b o : Nat} {u : Value} (hx : Has All w0 a0 Γ x (Is (.pointer (some ⟨b, o, none⟩)))) (hT : aggB P T = some false) (hz : szOf P T = some 1) (hc : w0.cell? ⟨b, o, none⟩ = some u) (hb : b < w0.heap.size) (hu : oneC u = true) :
    Spec P ops All w0 a0 Γ ⟨d, .load T x, ty, pos, af, gd⟩ (Is u) := fun a g W hk hg he => by
  have e1 : a.eval x = .pointer (some ⟨b, o, none⟩) := hx.of_env hk hg he (by simp [Op.operands])
  have hcW : CellsAt W b o [u] := fun i hi => by
    have : i = 0 := by simpa using hi
    subst this
    show W.cell? ⟨b, o, none⟩ = some u
    rw [← hc]; unfold World.cell?; simp only [hk.block b hb trivial]
  have hr := run_loadVar (P := P) hcW hT hz rfl (fun _ => rfl)
  unfold OpRuns
  have : (execOp a.eval ⟨d, .load T x, ty, pos, af, gd⟩).run P W = .ok (.value u) W := by
    simp only [execOp, e1, Instr.loadAt, Instr.sureAddr, Sem.run_bind, Sem.run_pure, Result.andThen_ok, hr]
    rfl
  rw [this]
  exact ⟨.refl _ _, rfl⟩
def Abv (W : World) (q : Value) : Prop := q = .pointer none ∨ ∃ b o c T f, q = .pointer (some ⟨b, o, none⟩) ∧ W.heap[b]? = some (.cells c T f)
theorem Abv.ext {W W' : World} {q : Value} (h : Abv W q) (k : Ext W W') : Abv W' q := by
  rcases h with h | ⟨b, o, c, T, f, h1, h2⟩
  · exact .inl h
  · exact .inr ⟨b, o, c, T, f, h1, by rw [k.block b (Array.getElem?_eq_some_iff.1 h2).1 trivial]; exact h2⟩
theorem sp_ptrEqN {x y : Operand} {T T' E : TypeId} {n b o : Nat} {q : Value} {c : Array Value} {tc : TypeId} {fc : Nat × Nat} (hT : P.underlying T = some (.pointer E)) (hz : szOf P E = some (n + 1)) (hx : Has All w0 a0 Γ x (Is (.pointer (some ⟨b, o, none⟩)))) (hy : Has All w0 a0 Γ y (Is q))
    (hc : w0.heap[b]? = some (.cells c tc fc)) (hf : w0.frozen? ⟨b, o, none⟩ = false) (hq : Abv w0 q) :
    Spec P ops All w0 a0 Γ ⟨d, .binOp .eql T x y T', ty, pos, af, gd⟩ (fun _ v _ => ∃ r, v = .bool r ∧ (q = .pointer none → r = false)) := fun a g W hk hg he => by
  have e1 : a.eval x = .pointer (some ⟨b, o, none⟩) := hx.of_env hk hg he (by simp [Op.operands])
  have e2 : a.eval y = q := hy.of_env hk hg he (by simp [Op.operands])
  have hbl := (Array.getElem?_eq_some_iff.1 hc).1
  have hc' : W.heap[b]? = some (.cells c tc fc) := by rw [hk.block b hbl trivial]; exact hc
  have hf' : W.frozen? ⟨b, o, none⟩ = false := by rw [← hf]; unfold World.frozen?; simp only [hk.block b hbl trivial]
  unfold OpRuns
  rcases hq.ext hk with rfl | ⟨b2, o2, c2, T2, f2, rfl, h2⟩
  · have : (execOp a.eval ⟨d, .binOp .eql T x y T', ty, pos, af, gd⟩).run P W = .ok (.value (.bool false)) W := by
      simp [execOp, e1, e2, binOp, eqGuard, equalIn_ptr hT (some _) none _ (.inr rfl)]
    rw [this]
    exact ⟨.refl _ _, false, rfl, fun _ => rfl⟩
  · obtain ⟨r, W', hs, hext⟩ := run_sameAddr_any (P := P) (a := ⟨b, o, none⟩) (b := ⟨b2, o2, none⟩) hc' h2 hf'
    have heq : (Op.equal T (.pointer (some ⟨b, o, none⟩)) (.pointer (some ⟨b2, o2, none⟩))).run P W = .ok r W' := by
      show (Op.equalIn (9999 + 1) T _ _).run P W = _
      rw [Op.equalIn]
      simp [run_und hT, run_szOf hz, hs]
    have : (execOp a.eval ⟨d, .binOp .eql T x y T', ty, pos, af, gd⟩).run P W = .ok (.value (.bool r)) W' := by
      simp [execOp, e1, e2, binOp, eqGuard, heq]
    rw [this]
    exact ⟨hext, r, rfl, fun h => by cases h⟩
theorem cell_row {W : World} {b o : Nat} {v : Value} (h : W.cell? ⟨b, o, none⟩ = some v) : ∃ c T f, W.heap[b]? = some (.cells c T f) := by
  unfold World.cell? at h
  split at h
  · rename_i c T f hq; exact ⟨_, _, _, hq⟩
  all_goals simp_all
end
end Go.Eng
namespace Go.Eng
structure Cp (x y : V) : Prop where
  k : y.k = x.k
  n : y.n = x.n
  t : y.t = x.t
  ns : y.ns = x.ns
  len : y.xs.length = x.xs.length
  at' : ∀ i (h : i < x.xs.length) (h2 : i < y.xs.length), y.xs[i] = x.xs[i] ∨ y.xs[i] = V.zero
theorem Cp.refl (x : V) : Cp x x := ⟨rfl, rfl, rfl, rfl, rfl, fun _ _ _ => .inl rfl⟩
theorem cp_wts : ∀ (a b : List V), b.length = a.length → (∀ i (h : i < a.length) (h2 : i < b.length), b[i] = a[i] ∨ b[i] = V.zero) → V.wts b ≤ V.wts a
  | [], [], _, _ => Nat.le_refl _
  | [], _ :: _, h, _ => by simp at h
  | _ :: _, [], h, _ => by simp at h
  | x :: a, y :: b, h, hi => by
    have h1 := cp_wts a b (by simpa using h) fun i h1 h2 => hi (i + 1) (by simpa using h1) (by simpa using h2)
    have h2 : y.wt ≤ x.wt := by
      rcases hi 0 (by simp) (by simp) with h3 | h3
      · have h3 : y = x := h3
        rw [h3]; exact Nat.le_refl _
      · have h3 : y = V.zero := h3
        rw [h3]; exact wt_pos x
    simp only [V.wts]; omega
theorem Cp.wt {x y : V} (h : Cp x y) : y.wt ≤ x.wt := by
  have h1 := cp_wts x.xs y.xs h.len h.at'
  have h2 := wt_eq x
  have h3 := wt_eq y
  rw [h.t, h.ns] at h3
  omega
end Go.Eng
namespace Go.Eng
theorem pin_sa {u w : World} {S : BSet} {M : List Nat} (hp : Pin u S) (hu : u.heap.size ≤ w.heap.size) : Pin u (SA w S M) := fun b o h hlt => hp b o (h.1 (by omega)) hlt
theorem rd_argQ {w : World} {S : BSet} {M : List Nat} {d : D} {v : Value} (h : Rd w S d v) (hM : ∀ b ∈ M, w.heap.size ≤ b) : Rd w (SA w S M) d v :=
  h.mono fun b o hb hlt => ⟨fun _ => hb, fun h' => by omega, fun hm => by have := hM b hm; omega⟩
theorem rdV_xs {W : World} {S : BSet} {x : V} {c0 c1 c2 c3 c4 : Value} (h : Rd W S x.d (.agg #[c0, c1, c2, c3, c4])) : Rd W S (valsD x.xs) c4 := by
  obtain ⟨_, _, _, _, e, _, _, h4⟩ := rdV_out h
  injection e with e
  have := congrArg Array.toList e
  simp at this
  rw [this.2.2.2.2]; exact h4
def AVv (u : World) (v : Value) : Prop := ∀ c0 c1 c2 c3 c4, v = .agg #[c0, c1, c2, c3, c4] → AV u c4
theorem el_qav {u w : World} {S : BSet} {xs : List V} {va : Option Addr} {vc k : Nat} (hP : Pin u S) (hav : AV u (.slice va xs.length vc)) (h : Rd w S (valsD xs) (.slice va xs.length vc)) (hk : k < xs.length) :
    ∃ b o na nc ua uc, va = some ⟨b, o, none⟩ ∧ b < w.heap.size ∧
      CellsAt w b (o + k * 5) [.int .u8 (xs[k]).k, .int .i64 (xs[k]).n, .string (xs[k]).t, .slice na (xs[k]).ns.length nc, .slice ua (xs[k]).xs.length uc] ∧ (xs[k]).t.size ≤ maxLen ∧
      Rd w S (strsD (xs[k]).ns) (.slice na (xs[k]).ns.length nc) ∧ Rd w S (valsD (xs[k]).xs) (.slice ua (xs[k]).xs.length uc) ∧ w.frozen? ⟨b, o + k * 5, none⟩ = false ∧ AV u (.slice ua (xs[k]).xs.length uc) := by
  obtain ⟨cs, h1, h2⟩ := h
  simp only [valsD, RdC] at h1
  obtain ⟨a, cap, rfl, _, _, h4⟩ := h1
  simp only [asm] at h2
  injection h2 with e1 e2 e3
  subst e1; subst e3
  rcases h4 with h4 | ⟨b, o, rfl, h5, h6, h7⟩
  · simp at h4; subst h4; simp at hk
  · obtain ⟨c, hl, hc, hr⟩ := h7.get k (by simpa using hk)
    rw [List.getElem_map] at hr
    obtain ⟨a1, c1, a2, c2, e, ht, h8, h9⟩ := rdV_out (⟨c, hr, rfl⟩ : Rd w S (xs[k]).d (asm (xs[k]).d c))
    have ec := cells_asm hr
    rw [e] at ec
    have ec' : c = [.int .u8 (xs[k]).k, .int .i64 (xs[k]).n, .string (xs[k]).t, .slice a1 (xs[k]).ns.length c1, .slice a2 (xs[k]).xs.length c2] := by
      have := congrArg Array.toList ec
      simpa [Value.cells] using this.symm
    subst ec'
    have hq : QV u b (o + k * 5) := AV.idx hav hk
    have hc4 : w.cell? ⟨b, o + k * 5 + 4, none⟩ = some (.slice a2 (xs[k]).xs.length c2) := hc 4 (by simp)
    exact ⟨b, o, a1, c1, a2, c2, rfl, h6, hc, ht, h8, h9, (frozen_pin hP h5 hq.1).trans hq.2.1, hq.2.2 _ ((cell_pin hP h5 hq.1).symm.trans hc4)⟩
theorem cell_keep {w w0 : World} {b o : Nat} (kw : Keeps All w w0) (hb : b < w.heap.size) : w0.cell? ⟨b, o, none⟩ = w.cell? ⟨b, o, none⟩ := by unfold World.cell?; simp only [kw.block b hb trivial]
theorem frozen_keep {w w0 : World} {b o : Nat} (kw : Keeps All w w0) (hb : b < w.heap.size) : w0.frozen? ⟨b, o, none⟩ = w.frozen? ⟨b, o, none⟩ := by unfold World.frozen?; simp only [kw.block b hb trivial]
def IsUB : Fact := fun _ v _ => ∃ r, v = .bool r
theorem st_ub {S : Nat → Prop} : Stable S IsUB := ⟨fun _ _ _ _ _ h => h, fun _ _ _ _ _ _ h => h⟩
def IsEx (x : V) (φ : V → Fact) : Fact := fun g v W => ∃ y, Cp x y ∧ φ y g v W
theorem st_ex1 {S : Nat → Prop} {x : V} {φ : V → Fact} (h : ∀ y, Stable S (φ y)) : Stable S (IsEx x φ) :=
  ⟨fun _ _ _ _ k ⟨y, h1, h2⟩ => ⟨y, h1, (h y).world _ _ _ _ k h2⟩, fun _ _ _ _ _ hb ⟨y, h1, h2⟩ => ⟨y, h1, (h y).ghost _ _ _ _ _ hb h2⟩⟩
section
variable {P : Program} {ops : Array Oper} {S : Nat → Prop} {w w0 : World} {a0 : Act} {Γ : Ctx}
variable {d : Option Tmp} {ty : TypeId} {pos : String} {af : Array Edge} {gd : Option (Nat × Bool)}
theorem sp_indexQ {x y : Operand} {T E : TypeId} {va : Option Addr} {b o n cap i : Nat} (hva : va = some ⟨b, o, none⟩) (hx : Has S w0 a0 Γ x (Is (.slice va n cap))) (hy : Has S w0 a0 Γ y (Is (.int .i64 i))) (hT : P.underlying T = some (.slice E)) (hz : szOf P E = some 5)
    (hi : i < n) : Spec P ops S w0 a0 Γ ⟨d, .indexAddr T x y, ty, pos, af, gd⟩ (Is (.pointer (some ⟨b, o + i * 5, none⟩))) := by subst hva; exact sp_indexP hx hy hT hz hi
theorem sp_loadQ {x : Operand} {T : TypeId} {b o : Nat} {u : Value} (kw : Keeps All w w0) (hx : Has All w0 a0 Γ x (Is (.pointer (some ⟨b, o, none⟩)))) (hT : aggB P T = some false) (hz : szOf P T = some 1) (hc : w.cell? ⟨b, o, none⟩ = some u) (hb : b < w.heap.size) (hu : oneC u = true) :
    Spec P ops All w0 a0 Γ ⟨d, .load T x, ty, pos, af, gd⟩ (Is u) := sp_loadP hx hT hz ((cell_keep kw hb).trans hc) (Nat.lt_of_lt_of_le hb kw.size) hu
theorem sp_loadQ5 {x : Operand} {T : TypeId} {b o : Nat} {c0 c1 c2 c3 c4 : Value} (kw : Keeps All w w0) (hx : Has All w0 a0 Γ x (Is (.pointer (some ⟨b, o, none⟩)))) (hT : aggB P T = some true) (hz : szOf P T = some 5) (hc : CellsAt w b o [c0, c1, c2, c3, c4]) (hb : b < w.heap.size) :
    Spec P ops All w0 a0 Γ ⟨d, .load T x, ty, pos, af, gd⟩ (Is (.agg #[c0, c1, c2, c3, c4])) := fun a g W hk hg he => by
  have e1 : a.eval x = .pointer (some ⟨b, o, none⟩) := hx.of_env hk hg he (by simp [Op.operands])
  have hcW : CellsAt W b o [c0, c1, c2, c3, c4] := fun i hi => ((cell_keep (kw.trans hk) hb).trans (hc i hi))
  have hr := run_loadVar (P := P) hcW hT hz rfl (fun h => by cases h)
  unfold OpRuns
  have : (execOp a.eval ⟨d, .load T x, ty, pos, af, gd⟩).run P W = .ok (.value (.agg #[c0, c1, c2, c3, c4])) W := by
    simp only [execOp, e1, Instr.loadAt, Instr.sureAddr, Sem.run_bind, Sem.run_pure, Result.andThen_ok, hr]
    rfl
  rw [this]
  exact ⟨.refl _ _, rfl⟩
theorem sp_ptrEqQ {x y : Operand} {T T' E : TypeId} {n b o : Nat} {q cv : Value} (kw : Keeps All w w0) (hT : P.underlying T = some (.pointer E)) (hz : szOf P E = some (n + 1)) (hx : Has All w0 a0 Γ x (Is (.pointer (some ⟨b, o, none⟩)))) (hy : Has All w0 a0 Γ y (Is q))
    (hc : w.cell? ⟨b, o, none⟩ = some cv) (hb : b < w.heap.size) (hf : w.frozen? ⟨b, o, none⟩ = false) (hq : Abv w q) :
    Spec P ops All w0 a0 Γ ⟨d, .binOp .eql T x y T', ty, pos, af, gd⟩ IsUB := by
  obtain ⟨c, tc, fc, hr⟩ := cell_row hc
  exact sp_mono (sp_ptrEqN hT hz hx hy ((kw.block b hb trivial).trans hr) ((frozen_keep kw hb).trans hf) (hq.ext kw)) fun _ _ _ ⟨r, h, _⟩ => ⟨r, h⟩
end
theorem abv_q {w : World} {b o : Nat} {cv : Value} (hc : w.cell? ⟨b, o, none⟩ = some cv) : Abv w (.pointer (some ⟨b, o, none⟩)) :=
  let ⟨c, T, f, h⟩ := cell_row hc; .inr ⟨b, o, c, T, f, rfl, h⟩
def CpL (xs ys : List V) (k : Nat) : Prop := ys.length = k ∧ ∀ i (h : i < xs.length) (h2 : i < ys.length), ys[i] = xs[i] ∨ ys[i] = V.zero
theorem cpL_nil (xs : List V) : CpL xs [] 0 := ⟨rfl, fun i _ h => by simp at h⟩
theorem cpL_step {xs ys : List V} {k : Nat} {y : V} (h : CpL xs ys k) (hk : k < xs.length) (hy : y = xs[k] ∨ y = V.zero) : CpL xs (ys ++ [y]) (k + 1) := by
  refine ⟨by simp [h.1], fun i h1 h2 => ?_⟩
  by_cases hik : i < ys.length
  · rw [List.getElem_append_left hik]; exact h.2 i h1 hik
  · have hi2 : i < ys.length + 1 := by simpa using h2
    have : i = k := by have := h.1; omega
    subst this
    rw [List.getElem_append_right (by omega)]
    simpa using hy
end Go.Eng
namespace Go.Eng
def AnyS : BSet := fun _ _ => True
theorem arr_rdU {W : World} {lo : Nat} {e : TypeId} {sz : Nat} {X : BSet} {ds : List D} {v : Value} {hd : Option Nat} (h : Arr W lo e sz X ds v hd) : Rd W AnyS (.lst sz ds) v := arr_rd h (fun _ _ _ _ => trivial) (fun _ _ _ _ _ => trivial)
end Go.Eng
namespace Go.Eng
structure Vo where
  r : Rc
  repo : ByteArray
def Vo.d (a : Vo) : D := .agg [a.r.d, .str a.repo]
def vosD (l : List Vo) : D := .lst 8 (l.map Vo.d)
structure To where
  repo : ByteArray
  r : Rc
def To.d (a : To) : D := .agg [.str a.repo, a.r.d]
def tosD (l : List To) : D := .lst 8 (l.map To.d)
section
variable {W : World} {S : BSet} {v : Value}
theorem rdVos_out {l : List Vo} (h : Rd W S (vosD l) v) : ∃ ad cap, v = .slice ad l.length cap ∧ Rd W S (vosD l) (.slice ad l.length cap) := rdL_out (by simp) h
theorem rdTos_out {l : List To} (h : Rd W S (tosD l) v) : ∃ ad cap, v = .slice ad l.length cap ∧ Rd W S (tosD l) (.slice ad l.length cap) := rdL_out (by simp) h
theorem rcells {x : Rc} {cs : List Value} (h : RdC W S x.d cs) : ∃ a0 c0 a1 c1 a2 c2, cs = [.int .i64 x.ln, .slice a0 x.hs.length c0, .int .u8 x.cu.k, .int .i64 x.cu.n, .string x.cu.t, .slice a1 x.cu.ns.length c1, .slice a2 x.cu.xs.length c2] ∧ x.cu.t.size ≤ maxLen ∧
    Rd W S (hssD x.hs) (.slice a0 x.hs.length c0) ∧ Rd W S (strsD x.cu.ns) (.slice a1 x.cu.ns.length c1) ∧ Rd W S (valsD x.cu.xs) (.slice a2 x.cu.xs.length c2) := by
  obtain ⟨a0, c0, a1, c1, a2, c2, e, h1, h2, h3, h4⟩ := rdRc_out (⟨cs, h, rfl⟩ : Rd W S x.d (asm x.d cs))
  refine ⟨a0, c0, a1, c1, a2, c2, ?_, h1, h2, h3, h4⟩
  simp only [Rc.d, asm, Value.agg.injEq] at e
  have := congrArg Array.toList e
  simpa using this
theorem rdcR {x : Rc} {cs : Array Value} (h : Rd W S x.d (.agg cs)) : RdC W S x.d cs.toList := by
  obtain ⟨c, h1, e⟩ := h
  simp only [Rc.d, asm, Value.agg.injEq] at e
  subst e; simpa using h1
theorem rdVo_out {a : Vo} (h : Rd W S a.d v) : ∃ a0 c0 a1 c1 a2 c2, v = .agg #[.int .i64 a.r.ln, .slice a0 a.r.hs.length c0, .int .u8 a.r.cu.k, .int .i64 a.r.cu.n, .string a.r.cu.t, .slice a1 a.r.cu.ns.length c1, .slice a2 a.r.cu.xs.length c2, .string a.repo] ∧
    a.r.cu.t.size ≤ maxLen ∧ a.repo.size ≤ maxLen ∧ Rd W S (hssD a.r.hs) (.slice a0 a.r.hs.length c0) ∧ Rd W S (strsD a.r.cu.ns) (.slice a1 a.r.cu.ns.length c1) ∧ Rd W S (valsD a.r.cu.xs) (.slice a2 a.r.cu.xs.length c2) := by
  obtain ⟨cs, h1, rfl⟩ := h
  simp only [Vo.d, RdC, RdF] at h1
  obtain ⟨c1, _, rfl, h2, _, _, rfl, ⟨rfl, h3⟩, rfl⟩ := h1
  obtain ⟨a0, c0, a1, c1', a2, c2, rfl, h4, h5, h6, h7⟩ := rcells (show RdC W S a.r.d c1 by simpa only [Rc.d, RdC] using h2)
  exact ⟨a0, c0, a1, c1', a2, c2, rfl, h4, h3, h5, h6, h7⟩
theorem rdVo_mk {x : Rc} {repo : ByteArray} {c0 c1 c2 c3 c4 c5 c6 : Value} (hv : Rd W S x.d (.agg #[c0, c1, c2, c3, c4, c5, c6])) (h : repo.size ≤ maxLen) : Rd W S (Vo.d ⟨x, repo⟩) (.agg #[c0, c1, c2, c3, c4, c5, c6, .string repo]) :=
  ⟨[c0, c1, c2, c3, c4, c5, c6, .string repo], by simp only [Vo.d, RdC, RdF]; exact ⟨[c0, c1, c2, c3, c4, c5, c6], [_], rfl, by simpa only [Rc.d, RdC] using rdcR hv, [_], [], rfl, ⟨rfl, h⟩, rfl⟩, rfl⟩
theorem rdTo_out {a : To} (h : Rd W S a.d v) : ∃ a0 c0 a1 c1 a2 c2, v = .agg #[.string a.repo, .int .i64 a.r.ln, .slice a0 a.r.hs.length c0, .int .u8 a.r.cu.k, .int .i64 a.r.cu.n, .string a.r.cu.t, .slice a1 a.r.cu.ns.length c1, .slice a2 a.r.cu.xs.length c2] ∧
    a.repo.size ≤ maxLen ∧ a.r.cu.t.size ≤ maxLen ∧ Rd W S (hssD a.r.hs) (.slice a0 a.r.hs.length c0) ∧ Rd W S (strsD a.r.cu.ns) (.slice a1 a.r.cu.ns.length c1) ∧ Rd W S (valsD a.r.cu.xs) (.slice a2 a.r.cu.xs.length c2) := by
  obtain ⟨cs, h1, rfl⟩ := h
  simp only [To.d, RdC, RdF] at h1
  obtain ⟨_, _, rfl, ⟨rfl, h3⟩, c1, _, rfl, h2, rfl⟩ := h1
  obtain ⟨a0, c0, a1, c1', a2, c2, rfl, h4, h5, h6, h7⟩ := rcells (show RdC W S a.r.d c1 by simpa only [Rc.d, RdC] using h2)
  exact ⟨a0, c0, a1, c1', a2, c2, rfl, h3, h4, h5, h6, h7⟩
theorem rdTo_mk {x : Rc} {repo : ByteArray} {c0 c1 c2 c3 c4 c5 c6 : Value} (h : repo.size ≤ maxLen) (hv : Rd W S x.d (.agg #[c0, c1, c2, c3, c4, c5, c6])) : Rd W S (To.d ⟨repo, x⟩) (.agg #[.string repo, c0, c1, c2, c3, c4, c5, c6]) :=
  ⟨[.string repo, c0, c1, c2, c3, c4, c5, c6], by simp only [To.d, RdC, RdF]; exact ⟨[_], [c0, c1, c2, c3, c4, c5, c6], rfl, ⟨rfl, h⟩, [c0, c1, c2, c3, c4, c5, c6], [], by simp, by simpa only [Rc.d, RdC] using rdcR hv, rfl⟩, rfl⟩
theorem width_Vo (a : Vo) : width a.d = 8 := by simp [Vo.d, width, widths, width_Rc]
theorem width_To (a : To) : width a.d = 8 := by simp [To.d, width, widths, width_Rc]
theorem rdVos_len {l : List Vo} (h : Rd W S (vosD l) v) : l.length ≤ maxLen := by
  obtain ⟨cs, h1, _⟩ := h
  simp only [vosD, RdC] at h1
  obtain ⟨a, cap, _, h2, h3, _⟩ := h1
  simp at h2; omega
theorem rdTos_len {l : List To} (h : Rd W S (tosD l) v) : l.length ≤ maxLen := by
  obtain ⟨cs, h1, _⟩ := h
  simp only [tosD, RdC] at h1
  obtain ⟨a, cap, _, h2, h3, _⟩ := h1
  simp at h2; omega
end
theorem zVo (W : World) (X : BSet) : RdF W X [Rc.d ⟨0, [], V.zero⟩, .str ⟨#[]⟩] [.int .i64 0, .slice none 0 0, .int .u8 0, .int .i64 0, .string ⟨#[]⟩, .slice none 0 0, .slice none 0 0, .string ⟨#[]⟩] :=
  ⟨[.int .i64 0, .slice none 0 0, .int .u8 0, .int .i64 0, .string ⟨#[]⟩, .slice none 0 0, .slice none 0 0], [_], rfl, by simpa only [Rc.d, RdC] using zRc W X, [_], [], rfl, ⟨rfl, by decide⟩, rfl⟩
def Rc.zero : Rc := ⟨0, [], V.zero⟩
theorem sameR_iff' (a b : Rc) : sameR a b = true ↔ a = b := by
  cases a; cases b
  simp [sameR, sameH_iff, beq_iff]
def sameVo (p : Vo) (r : Rc) : Bool := decide (p.r.ln = r.ln) && sameR p.r r
theorem sameVo_iff (p : Vo) (r : Rc) : sameVo p r = true ↔ p.r = r := by
  unfold sameVo
  rw [Bool.and_eq_true, sameR_iff', decide_eq_true_eq]
  exact ⟨fun h => h.2, fun h => ⟨by rw [h], h⟩⟩
def cntV (l : List Vo) (r : Rc) : Nat := l.countP fun v => sameVo v r
theorem cntV_take {l : List Vo} {k : Nat} (h : k < l.length) (r : Rc) : cntV (l.take (k + 1)) r = cntV (l.take k) r + if sameVo l[k] r then 1 else 0 := by
  rw [List.take_succ_eq_append_getElem h, cntV, List.countP_append]
  simp [cntV, List.countP_cons]
theorem cntV_le (l : List Vo) (r : Rc) : cntV l r ≤ l.length := List.countP_le_length
theorem cntV_app (l : List Vo) (x : Vo) (r : Rc) : cntV l r ≤ cntV (l ++ [x]) r := by unfold cntV; rw [List.countP_append]; omega
def mostV (L : List Vo) : List Vo → Nat → Nat
  | [], m => m
  | v :: l, m => mostV L l (max m (cntV L v.r))
theorem mostV_app (L : List Vo) : ∀ (l : List Vo) (m : Nat) (v : Vo), mostV L (l ++ [v]) m = max (mostV L l m) (cntV L v.r)
  | [], _, _ => rfl
  | a :: l, m, v => mostV_app L l _ v
theorem mostV_take {L : List Vo} {k : Nat} (h : k < L.length) : mostV L (L.take (k + 1)) 0 = max (mostV L (L.take k) 0) (cntV L (L[k]).r) := by rw [List.take_succ_eq_append_getElem h, mostV_app]
theorem mostV_mono {L L' : List Vo} (hc : ∀ r, cntV L r ≤ cntV L' r) : ∀ (l : List Vo) (m m' : Nat), m ≤ m' → mostV L l m ≤ mostV L' l m'
  | [], m, m', h => h
  | v :: l, m, m', h => mostV_mono hc l _ _ (by have := hc v.r; omega)
theorem mostV_more {L : List Vo} (x : Vo) : mostV L L 0 ≤ mostV (L ++ [x]) (L ++ [x]) 0 := by
  rw [mostV_app]
  have := mostV_mono (L := L) (L' := L ++ [x]) (fun r => cntV_app L x r) L 0 0 (Nat.le_refl _)
  omega
def wonF (want : Int) (L : List Vo) : Nat → Nat → Option Vo
  | 0, _ => none
  | n + 1, i => if h : i < L.length then if want ≤ (cntV (L.take (i + 1)) (L[i]).r : Int) then some L[i] else wonF want L n (i + 1) else none
def wonO (want : Int) (L : List Vo) : Option Vo := wonF want L L.length 0
def wonB (want : Int) (L : List Vo) : Bool := (wonO want L).isSome
def wonS (want : Int) (L : List Vo) : ByteArray := match wonO want L with | some v => v.repo | none => ⟨#[]⟩
def wonR (want : Int) (L : List Vo) : Rc := match wonO want L with | some v => v.r | none => Rc.zero
theorem wonF_step {want : Int} {L : List Vo} {k : Nat} (h : k < L.length) : wonF want L (L.length - k) k = if want ≤ (cntV (L.take (k + 1)) (L[k]).r : Int) then some L[k] else wonF want L (L.length - (k + 1)) (k + 1) := by
  rw [show L.length - k = (L.length - (k + 1)) + 1 by omega, wonF, dif_pos h]
theorem wonF_mem {want : Int} {L : List Vo} : ∀ (n i : Nat) (v : Vo), wonF want L n i = some v → v ∈ L
  | 0, _, _, h => by cases h
  | n + 1, i, v, h => by
    rw [wonF] at h
    split at h
    · split at h
      · cases h; exact List.getElem_mem _
      · exact wonF_mem n _ v h
    · cases h
theorem wonF_app {want : Int} {L : List Vo} (x : Vo) : ∀ (n i : Nat) (v : Vo), i + n ≤ L.length → wonF want L n i = some v → wonF want (L ++ [x]) (n + 1) i = some v
  | 0, _, _, _, h => by cases h
  | n + 1, i, v, hi, h => by
    have hl : i < L.length := by omega
    have hl2 : i < (L ++ [x]).length := by simp; omega
    have e1 : (L ++ [x])[i] = L[i] := List.getElem_append_left hl
    have e2 : (L ++ [x]).take (i + 1) = L.take (i + 1) := by rw [List.take_append_of_le_length (by omega)]
    rw [wonF, dif_pos hl] at h
    rw [wonF, dif_pos hl2, e1, e2]
    split at h
    · rename_i hw; rw [if_pos hw]; exact h
    · rename_i hw; rw [if_neg hw]; exact wonF_app x n (i + 1) v (by omega) h
theorem wonO_app {want : Int} {L : List Vo} (x : Vo) {v : Vo} (h : wonO want L = some v) : wonO want (L ++ [x]) = some v := by
  have := wonF_app x L.length 0 v (by omega) h
  unfold wonO
  simpa using this
theorem won_more {want : Int} {L : List Vo} (x : Vo) (h : wonB want L = true) : wonB want (L ++ [x]) = true ∧ wonS want (L ++ [x]) = wonS want L ∧ wonR want (L ++ [x]) = wonR want L := by
  unfold wonB at h ⊢
  unfold wonS wonR
  cases hq : wonO want L with
  | none => rw [hq] at h; cases h
  | some v => rw [wonO_app x hq]; exact ⟨rfl, rfl, rfl⟩
theorem row_hss {W : World} {X X' : BSet} : ∀ (l : List Hs) (cs : List Value), RowIs W X 2 (l.map Hs.d) cs → RowIs W X' 2 (l.map Hs.d) cs
  | [], cs, h => by simpa only [List.map_nil, RowIs] using h
  | n :: ns, cs, h => by
    simp only [List.map_cons, RowIs] at h ⊢
    obtain ⟨c, r, h0, h1, h2, h3⟩ := h
    exact ⟨c, r, h0, h1, by simpa only [Hs.d, RdC, RdF] using h2, row_hss ns r h3⟩
section
variable {P : Program} {ops : Array Oper} {S : Nat → Prop} {w0 : World} {a0 : Act} {Γ : Ctx}
variable {d : Option Tmp} {ty : TypeId} {pos : String} {af : Array Edge} {gd : Option (Nat × Bool)}
theorem sp_appH {x y : Operand} {T E : TypeId} {bytes : Nat} {l : List Hs} {X X' : BSet} (hT : P.underlying T = some (.slice E)) (hi : inf P E 2 bytes) (hx : Has S w0 a0 Γ x (IsE E)) (hy : Has S w0 a0 Γ y (IsD X (hssD l)))
    (hl : l.length * bytes ≤ 140737488355328) (hm : l.length ≤ 4611686018427387904) (hX : ∀ b o, Fr w0 b o → X' b o) :
    Spec P ops S w0 a0 Γ ⟨d, .call ⟨.builtin .append, #[x, y], #[T, T]⟩, ty, pos, af, gd⟩ (IsD X' (hssD l)) :=
  sp_appG (ds := l.map Hs.d) hT hi (by omega) hx hy (by simpa using hl) (by simpa using hm) hX fun _ _ cs hr => row_hss l cs hr
theorem sp_sliceDVo {x y : Operand} {T E : TypeId} {X : BSet} {h : Nat} {j : Int} {xs : List Vo} (hT : P.underlying T = some (.slice E)) (hz : szOf P E = some 8) (hx : Has S w0 a0 Γ x (IsD X (vosD xs))) (hy : Has S w0 a0 Γ y (Is (.int .i64 j))) (hj : j = h) (hh : h ≤ xs.length) (hne : 0 < xs.length) :
    Spec P ops S w0 a0 Γ ⟨d, .slice T x .none (some y) none, ty, pos, af, gd⟩ (IsD X (vosD (xs.take h))) := by
  have := sp_sliceDHi (ops := ops) (d := d) (ty := ty) (pos := pos) (af := af) (gd := gd) hT hz hx hy hj (by simpa using hh) (by simpa using hne)
  unfold vosD
  rw [List.map_take]
  exact this
end
end Go.Eng
namespace Go.Eng
section
variable {P : Program} {ops : Array Oper} {S : Nat → Prop} {w0 : World} {a0 : Act} {Γ : Ctx}
variable {d : Option Tmp} {ty : TypeId} {pos : String} {af : Array Edge} {gd : Option (Nat × Bool)}
theorem sp_notUB {x : Operand} {T : TypeId} (hx : Has S w0 a0 Γ x IsUB) : Spec P ops S w0 a0 Γ ⟨d, .unOp .not T x, ty, pos, af, gd⟩ IsUB := fun a g W hk hg he => by
  obtain ⟨r, e1⟩ := hx.of_env hk hg he (by simp [Op.operands])
  unfold OpRuns
  have : (execOp a.eval ⟨d, .unOp .not T x, ty, pos, af, gd⟩).run P W = .ok (.value (.bool (!r))) W := by simp [execOp, e1, Op.unary]
  rw [this]
  exact ⟨.refl _ _, _, rfl⟩
theorem sp_orUB {c x : Operand} {p : Bool} (hc : Has S w0 a0 Γ c (Is (.bool p))) (hx : Has S w0 a0 Γ x (Under (p = false) IsUB)) : Spec P ops S w0 a0 Γ ⟨d, .pick c (.const (.bool true)) x, ty, pos, af, gd⟩ IsUB := fun a g W hk hg he => by
  have e1 : a.eval c = .bool p := hc.of_env hk hg he (by simp [Op.operands])
  have e2 : p = false → ∃ r, a.eval x = .bool r := hx.of_env hk hg he (by simp [Op.operands])
  cases p with
  | false =>
    obtain ⟨r, e3⟩ := e2 rfl
    unfold OpRuns
    have : (execOp a.eval ⟨d, .pick c (.const (.bool true)) x, ty, pos, af, gd⟩).run P W = .ok (.value (.bool r)) W := by simp [execOp, e1, asBool, e3]
    rw [this]
    exact ⟨.refl _ _, _, rfl⟩
  | true =>
    have e3 : a.eval (.const (.bool true)) = .bool true := rfl
    unfold OpRuns
    have : (execOp a.eval ⟨d, .pick c (.const (.bool true)) x, ty, pos, af, gd⟩).run P W = .ok (.value (.bool true)) W := by simp [execOp, e1, asBool, e3]
    rw [this]
    exact ⟨.refl _ _, _, rfl⟩
theorem sp_andUB {c x : Operand} {p : Bool} (hc : Has S w0 a0 Γ c (Is (.bool p))) (hx : Has S w0 a0 Γ x (Under (p = true) IsUB)) : Spec P ops S w0 a0 Γ ⟨d, .pick c x (.const (.bool false)), ty, pos, af, gd⟩ IsUB := fun a g W hk hg he => by
  have e1 : a.eval c = .bool p := hc.of_env hk hg he (by simp [Op.operands])
  have e2 : p = true → ∃ r, a.eval x = .bool r := hx.of_env hk hg he (by simp [Op.operands])
  cases p with
  | true =>
    obtain ⟨r, e3⟩ := e2 rfl
    unfold OpRuns
    have : (execOp a.eval ⟨d, .pick c x (.const (.bool false)), ty, pos, af, gd⟩).run P W = .ok (.value (.bool r)) W := by simp [execOp, e1, asBool, e3]
    rw [this]
    exact ⟨.refl _ _, _, rfl⟩
  | false =>
    have e3 : a.eval (.const (.bool false)) = .bool false := rfl
    unfold OpRuns
    have : (execOp a.eval ⟨d, .pick c x (.const (.bool false)), ty, pos, af, gd⟩).run P W = .ok (.value (.bool false)) W := by simp [execOp, e1, asBool, e3]
    rw [this]
    exact ⟨.refl _ _, _, rfl⟩
theorem env_more {t : Nat} {φ : Fact} {a : Act} {g : Gh} {W : World} (hφ : φ g (sl a t) W) : ∀ {ts : List Nat}, Env Γ a0 a g W ts → Env ((some t, φ) :: Γ) a0 a g W ts
  | [], _ => trivial
  | u :: ts, he => by
    refine ⟨?_, env_more hφ he.2⟩
    have h1 := he.1
    by_cases hu : t = u
    · subst hu; simp only [look, beq_self_eq_true, cond_true]; exact hφ
    · have hb : (t == u) = false := by simpa using hu
      simp only [look, hb, cond_false]; exact h1
theorem spec_ex {o : Oper} {t : Nat} {x : V} {φ ψ : V → Fact} (hl : look Γ t = some (IsEx x φ)) (ht : t ∈ o.looksAt ops) (h : ∀ y, Cp x y → Spec P ops S w0 a0 ((some t, φ y) :: Γ) o (ψ y)) : Spec P ops S w0 a0 Γ o (IsEx x ψ) := fun a g W hk hg he => by
  have h1 := he.get ht
  unfold Env1 at h1; rw [hl] at h1
  obtain ⟨y, hy, hφ⟩ := h1
  exact (h y hy a g W hk hg (env_more hφ he)).mono fun v W' ⟨k, hv⟩ => ⟨k, y, hy, hv⟩
theorem look_in {o : Oper} {t : Nat} (h : Operand.tmp t ∈ o.op.operands) : t ∈ o.looksAt ops := List.mem_append_left _ (List.mem_filterMap.2 ⟨.tmp t, by simpa using h, rfl⟩)
variable {K : List Oper → Ctx → (World → Prop) → List Bool → Prop} {l : List Oper} {Ψ Ψ' : World → Prop} {ms : List Bool}
theorem app_ob {x y : Operand} {T E : TypeId} {lo sz bytes : Nat} {ds es : List D} {X : BSet} {hd : Option Nat} {v : Value} {a : Act} {g : Gh} {W : World} (hT : P.underlying T = some (.slice E)) (hi : inf P E sz bytes) (hsz : 0 < sz)
    (hxe : a.eval x = v) (hyd : IsD X (.lst sz es) g (a.eval y) W) (hX : ∀ b o, X b o → b ∉ blks hd)
    (h63 : ds.length + es.length ≤ maxLen) (hb : (ds.length + es.length) * bytes ≤ 140737488355328) (hlo : lo ≤ w0.heap.size) (hk : Keeps (fun k => k ∉ blks hd) w0 W) (hψ : Arr W lo E sz X ds v hd) :
    ObRun P ops ⟨d, .call ⟨.builtin .append, #[x, y], #[T, T]⟩, ty, pos, af, none⟩ a W fun v W' => Keeps (fun k => k ∉ blks hd) W W' ∧ IsArr w0 lo E sz X (ds ++ es) hd g v W' ∧ Tr W' := by
  have hw : Region.wanted (⟨d, .call ⟨.builtin .append, #[x, y], #[T, T]⟩, ty, pos, af, none⟩ : Oper) (yielded ops a.tmps) = true := rfl
  unfold ObRun; rw [if_pos hw]
  unfold OpRuns
  obtain ⟨hv, cs, hown, hrow⟩ := hψ
  have hzero : ∀ ad c, a.eval y = .slice ad 0 c → es = [] → match (execOp a.eval ⟨d, .call ⟨.builtin .append, #[x, y], #[T, T]⟩, ty, pos, af, none⟩).run P W with
      | .ok (.value v) W' => Keeps (fun k => k ∉ blks hd) W W' ∧ IsArr w0 lo E sz X (ds ++ es) hd g v W' ∧ Tr W'
      | .ok .skip W' => Keeps (fun k => k ∉ blks hd) W W' ∧ IsArr w0 lo E sz X (ds ++ es) hd g undef W' ∧ Tr W'
      | .ok (.enter f args) W' => Calls P f args W' fun e W'' => ∃ v, e = .returned v ∧ Keeps (fun k => k ∉ blks hd) W W'' ∧ IsArr w0 lo E sz X (ds ++ es) hd g v W'' ∧ Tr W''
      | _ => False := fun ad c ey he0 => by
    have hop : (execOp a.eval ⟨d, .call ⟨.builtin .append, #[x, y], #[T, T]⟩, ty, pos, af, none⟩).run P W = .ok (.value v) W := by
      simp [execOp, resolve, invoke, builtin, hxe, ey, run_app0 (ty := ty) hT hi hown ad c]
    rw [hop]
    subst he0
    refine ⟨.refl _ _, ⟨hd, ⟨hv, cs, by simpa using hown, ?_⟩, fun b hb => .inl hb⟩, trivial⟩
    rw [List.append_nil]
    exact hrow.move (Nat.le_refl _) fun b hb _ => ⟨rfl, hb, hX b _ hb⟩
  rcases rd_row hyd with ⟨h0, ad, cap, ey⟩ | ⟨b, o, cap, cs2, ey, hbx, hlt, hc, hr⟩
  · exact hzero ad cap ey h0
  by_cases hne : 0 < es.length
  · obtain ⟨v', W', hrun, hown', hk', hfr⟩ := run_app (P := P) (ty := ty) (c := cap) hT hi hsz hown hr.length (cells_addr hc) (fun u hu => by rw [oneC_eq]; exact hr.one u hu) h63 hb (Nat.le_trans hlo hk.size) hne
    have hop : (execOp a.eval ⟨d, .call ⟨.builtin .append, #[x, y], #[T, T]⟩, ty, pos, af, none⟩).run P W = .ok (.value v') W' := by
      simp [execOp, resolve, invoke, builtin, hxe, ey, hrun]
    rw [hop]
    rw [hv] at hk' hfr
    have hnb : ∀ b o, X b o → b < W.heap.size → b ∉ blks v'.ownBlock := fun b o hb hlt hm => (hfr b hm).elim (hX b o hb) (by omega)
    refine ⟨hk', ⟨v'.ownBlock, ⟨rfl, cs ++ cs2, by rw [List.length_append]; exact hown', RowIs.append ?_ ?_⟩, fun b hb => (hfr b hb).imp id fun h => Nat.le_trans hk.size h⟩, trivial⟩
    · exact hrow.move hk'.size fun b hb hlt => ⟨hk'.block b hlt (hX b _ hb), by rw [hk'.block b hlt (hX b _ hb)]; exact hb, hnb b _ hb hlt⟩
    · exact hr.move hk'.size fun b hb hlt => ⟨hk'.block b hlt (hX b _ hb.1), by rw [hk'.block b hlt (hX b _ hb.1)]; exact hb.1, hnb b _ hb.1 hlt⟩
  · have h0 : es = [] := List.length_eq_zero_iff.1 (by omega)
    subst h0
    exact hzero _ cap ey rfl
theorem Chain.appBX {x y : Operand} {T E : TypeId} {lo sz bytes n : Nat} {ds : List D} {es : V → List D} {xx : V} {X : BSet} {hd : Option Nat} {v : Value} (hT : P.underlying T = some (.slice E)) (hi : inf P E sz bytes) (hsz : 0 < sz)
    (hx : Has (fun k => k ∉ blks hd) w0 a0 Γ x (Is v)) (hy : Has (fun k => k ∉ blks hd) w0 a0 Γ y (IsEx xx fun z => IsD X (.lst sz (es z)))) (hX : ∀ b o, X b o → b ∉ blks hd) (hn : ∀ z, (es z).length = n)
    (h63 : ds.length + n ≤ maxLen) (hb : (ds.length + n) * bytes ≤ 140737488355328) (hlo : lo ≤ w0.heap.size)
    (h : Chain P ops (fun k => k ∉ blks hd) w0 a0 K true l ((d, IsEx xx fun z => IsArr w0 lo E sz X (ds ++ es z) hd) :: Γ) Tr (true :: ms)) :
    Chain P ops (fun k => k ∉ blks hd) w0 a0 K false (⟨d, .call ⟨.builtin .append, #[x, y], #[T, T]⟩, ty, pos, af, none⟩ :: l) Γ (fun W => Arr W lo E sz X ds v hd) ms := by
  refine .last _ Tr (st_ex1 fun _ => st_arr) st_tr (fun a g W hk hg he hψ => ?_) h
  have hxe : a.eval x = v := hx.of_env hk hg he (by simp [Op.operands, Call.operands])
  obtain ⟨z, hz, hyd⟩ := hy.of_env hk hg he (by simp [Op.operands, Call.operands])
  exact (app_ob (ops := ops) (d := d) (ty := ty) (pos := pos) (af := af) hT hi hsz hxe hyd hX (by rw [hn]; exact h63) (by rw [hn]; exact hb) hlo hk hψ).mono fun v W' ⟨h1, h2, h3⟩ => ⟨h1, ⟨z, hz, h2⟩, h3⟩
end
theorem rd_move2 {W W' : World} {S S' : BSet} {d : D} {v : Value} (hs : W.heap.size ≤ W'.heap.size) (h : ∀ b, S b W.heap[b]? → b < W.heap.size → W'.heap[b]? = W.heap[b]? ∧ S' b W'.heap[b]?) (hd : Rd W S d v) : Rd W' S' d v :=
  let ⟨cs, h1, h2⟩ := hd; ⟨cs, rdc_move hs h _ _ h1, h2⟩
section
variable {w W W' : World} {S : BSet} {M M' L : List Nat} {d : D} {v : Value} {S0 : Nat → Prop}
theorem sf_appL (h : Rd W (SF w M) d v) (k : Keeps (fun x => x ∉ L) W W') (hM : ∀ b ∈ L, b ∈ M) (hr : ∀ b ∈ M', b ∈ M ∨ W.heap.size ≤ b) : Rd W' (SF w M') d v :=
  rd_move2 k.size (fun b hb hlt => by
    have e := k.block b hlt (fun e => hb.2.2 (hM b e))
    exact ⟨e, by rw [e]; exact ⟨hb.1, hb.2.1, fun hm => (hr b hm).elim hb.2.2 (by omega)⟩⟩) h
theorem sa_appL (h : Rd W (SA w S M) d v) (k : Keeps (fun x => x ∉ L) W W') (hM : ∀ b ∈ L, b ∈ M) (hr : ∀ b ∈ M', b ∈ M ∨ W.heap.size ≤ b) : Rd W' (SA w S M') d v :=
  rd_move2 k.size (fun b hb hlt => by
    have e := k.block b hlt (fun e => hb.2.2 (hM b e))
    exact ⟨e, by rw [e]; exact ⟨hb.1, hb.2.1, fun hm => (hr b hm).elim hb.2.2 (by omega)⟩⟩) h
theorem own_appL {b : Nat} {cs : List Value} {T : TypeId} (h : Own W b cs T) (k : Keeps (fun x => x ∉ L) W W') (hn : b ∉ L) : Own W' b cs T := h.keeps k hn
end
def ClnS : BSet := fun _ o => Cln o
theorem arr_rdC {W : World} {lo : Nat} {e : TypeId} {sz : Nat} {X : BSet} {ds : List D} {v : Value} {hd : Option Nat} (h : Arr W lo e sz X ds v hd) (hX : ∀ b o, X b o → Cln o) : Rd W ClnS (.lst sz ds) v := arr_rd h (fun b o hb _ => hX b o hb) (fun _ _ _ _ hc => hc)
theorem rd_cln {W : World} {S : BSet} {d : D} {v : Value} (h : Rd W S d v) (hS : ∀ b o, S b o → Cln o) : Rd W ClnS d v := h.mono fun b o hb _ => hS b o hb
theorem clnS_cln : ∀ b o, ClnS b o → Cln o := fun _ _ h => h
def IsT3 (φ1 φ2 φ3 : Fact) : Fact := fun g u W => ∃ u1 u2 u3, u = .tuple #[u1, u2, u3] ∧ φ1 g u1 W ∧ φ2 g u2 W ∧ φ3 g u3 W
theorem st_t3 {S : Nat → Prop} {φ1 φ2 φ3 : Fact} (h1 : Stable S φ1) (h2 : Stable S φ2) (h3 : Stable S φ3) : Stable S (IsT3 φ1 φ2 φ3) :=
  ⟨fun _ _ _ _ k ⟨u1, u2, u3, e, a, b, c⟩ => ⟨u1, u2, u3, e, h1.world _ _ _ _ k a, h2.world _ _ _ _ k b, h3.world _ _ _ _ k c⟩, fun _ _ _ _ _ hb ⟨u1, u2, u3, e, a, b, c⟩ => ⟨u1, u2, u3, e, h1.ghost _ _ _ _ _ hb a, h2.ghost _ _ _ _ _ hb b, h3.ghost _ _ _ _ _ hb c⟩⟩
section
variable {P : Program} {ops : Array Oper} {S : Nat → Prop} {w0 : World} {a0 : Act} {Γ : Ctx}
variable {d : Option Tmp} {ty : TypeId} {pos : String} {af : Array Edge} {gd : Option (Nat × Bool)}
theorem sp_ext30 {x : Operand} {φ1 φ2 φ3 : Fact} (hx : Has S w0 a0 Γ x (IsT3 φ1 φ2 φ3)) : Spec P ops S w0 a0 Γ ⟨d, .extract x 0, ty, pos, af, gd⟩ φ1 := fun a g W hk hg he => by
  obtain ⟨u1, u2, u3, e, h1, h2, h3⟩ := hx.of_env hk hg he (by simp [Op.operands])
  unfold OpRuns
  have : (execOp a.eval ⟨d, .extract x 0, ty, pos, af, gd⟩).run P W = .ok (.value u1) W := by simp [execOp, e, Instr.extract]
  rw [this]; exact ⟨.refl _ _, h1⟩
theorem sp_ext31 {x : Operand} {φ1 φ2 φ3 : Fact} (hx : Has S w0 a0 Γ x (IsT3 φ1 φ2 φ3)) : Spec P ops S w0 a0 Γ ⟨d, .extract x 1, ty, pos, af, gd⟩ φ2 := fun a g W hk hg he => by
  obtain ⟨u1, u2, u3, e, h1, h2, h3⟩ := hx.of_env hk hg he (by simp [Op.operands])
  unfold OpRuns
  have : (execOp a.eval ⟨d, .extract x 1, ty, pos, af, gd⟩).run P W = .ok (.value u2) W := by simp [execOp, e, Instr.extract]
  rw [this]; exact ⟨.refl _ _, h2⟩
theorem sp_ext32 {x : Operand} {φ1 φ2 φ3 : Fact} (hx : Has S w0 a0 Γ x (IsT3 φ1 φ2 φ3)) : Spec P ops S w0 a0 Γ ⟨d, .extract x 2, ty, pos, af, gd⟩ φ3 := fun a g W hk hg he => by
  obtain ⟨u1, u2, u3, e, h1, h2, h3⟩ := hx.of_env hk hg he (by simp [Op.operands])
  unfold OpRuns
  have : (execOp a.eval ⟨d, .extract x 2, ty, pos, af, gd⟩).run P W = .ok (.value u3) W := by simp [execOp, e, Instr.extract]
  rw [this]; exact ⟨.refl _ _, h3⟩
variable {fn : Func} {R : Ending → World → Prop} {a : Act} {W : World}
theorem results_c3 {p u u2 : Tmp} {ty : TypeId} (h : fn.results = #[.cell p ty, .tmp u, .tmp u2]) (tmps : Array Value) (P : Program) (w : World) :
    (results fn tmps).run P w = ((asAddr (tmps.getD p undef)).run P w).andThen fun a w₁ => ((loadVar ty a).run P w₁).andThen fun v w₂ => .ok (.tuple #[v, tmps.getD u undef, tmps.getD u2 undef]) w₂ := by
  simp only [results, h]
  simp [Sem.run_bind, Result.andThen]
theorem retC3 {t u u2 T b n : Nat} {ag : Bool} {cs : List Value} {T' : TypeId} {v v2 v3 : Value} (hr : fn.results = #[.cell t T, .tmp u, .tmp u2]) (hd : a.defers = []) (hp : sl a t = .pointer (some ⟨b, 0, none⟩)) (ho : Own W b cs T') (hT : aggB P T = some ag) (hz : szOf P T = some n) (hn : cs.length = n) (h1 : ag = false → n = 1)
    (hv : (if ag then .agg cs.toArray else cs.headD undef) = v) (h2 : sl a u = v2) (h3 : sl a u2 = v3) (hR : R (.returned (.tuple #[v, v2, v3])) W) : bodyPost P fn R .ret a W :=
  ⟨hd, .tuple #[v, v2, v3], by
    have := run_cellVar (P := P) hp ho hT hz hn h1 hv
    have e2 : a.tmps.getD u undef = v2 := h2
    have e3 : a.tmps.getD u2 undef = v3 := h3
    rw [results_c3 hr]
    simp only [Sem.run_bind] at this
    cases hq : (asAddr (a.tmps.getD t undef)).run P W with
    | halt x w => rw [hq] at this; simp at this
    | ok x w =>
      rw [hq] at this; simp only [Result.andThen_ok] at this ⊢
      rw [this]; simp only [Result.andThen_ok, e2, e3], hR⟩
end
theorem fr_sfM {S0 : Nat → Prop} {w W0 W : World} {M : List Nat} {d : D} {v : Value} (h : Rd W (Fr W0) d v) (kw : Keeps S0 w W0) (hM : ∀ b ∈ M, b < W0.heap.size) : Rd W (SF w M) d v :=
  h.mono fun b _ hb _ => ⟨Nat.le_trans kw.size hb.1, hb.2, fun hm => by have := hM b hm; have := hb.1; omega⟩
section
variable {P : Program} {ops : Array Oper} {S : Nat → Prop} {w0 : World} {a0 : Act} {Γ : Ctx}
variable {ty : TypeId} {pos : String} {af : Array Edge}
variable {K : List Oper → Ctx → (World → Prop) → List Bool → Prop} {l : List Oper} {ms : List Bool}
theorem Chain.storeD {x y : Operand} {T T0 : TypeId} {b n : Nat} {cs : List Value} {X : BSet} {d : D} (hx : Has (fun k => k ∉ [b]) w0 a0 Γ x (Is (.pointer (some ⟨b, 0, none⟩)))) (hy : Has (fun k => k ∉ [b]) w0 a0 Γ y (IsD X d)) (hagg : d.isAgg = true) (hz : szOf P T = some n) (hw : width d = n) (hcs : cs.length = n)
    (hX : ∀ b' o, X b' o → b' ∉ [b]) (h : Chain P ops (fun k => k ∉ [b]) w0 a0 K false l ((none, Any) :: Γ) (fun W => ∃ u, Own W b u.cells.toList T0 ∧ Rd W X d u) (true :: ms)) :
    Chain P ops (fun k => k ∉ [b]) w0 a0 K false (⟨none, .store T x y, ty, pos, af, none⟩ :: l) Γ (fun W => Own W b cs T0) ms := by
  refine Chain.main Any (fun W => ∃ u, Own W b u.cells.toList T0 ∧ Rd W X d u) st_any (by rintro W W' k ⟨u, h1, h2⟩; exact ⟨u, h1.ext k, h2.ext k⟩) (fun a g W hk hg he hψ => ?_) h
  have e1 : a.eval x = .pointer (some ⟨b, 0, none⟩) := hx.of_env hk hg he (by simp [Op.operands])
  have e2 := hy.of_env hk hg he (by simp [Op.operands])
  obtain ⟨u, hu⟩ : ∃ u, a.eval y = u := ⟨_, rfl⟩
  rw [hu] at e2
  have hrd : Rd W X d u := Rd.mono e2 fun b o hb _ => hb.1
  obtain ⟨c, hc, hue⟩ := hrd
  have hcl : u.cells.toList = c := by
    rw [hue]
    cases d <;> simp_all [D.isAgg, asm, Value.cells]
  have hlen : u.cells.toList.length = n := by rw [hcl, rdc_width _ _ hc, hw]
  obtain ⟨W', h2, h3, h4⟩ := run_storeCells (P := P) u.cells.toList 0 0 W cs hψ (by omega) (by rw [hcl]; exact fun q hq => rdc_one _ _ hc q hq)
  have hsp : splice cs (0 + 0) u.cells.toList = u.cells.toList := by
    unfold splice
    rw [List.drop_eq_nil_of_le (by omega)]
    simp
  rw [hsp] at h4
  have hw : Region.wanted (⟨none, .store T x y, ty, pos, af, none⟩ : Oper) (yielded ops a.tmps) = true := rfl
  unfold ObRun; rw [if_pos hw]
  unfold OpRuns
  have hn : u.cells.size = n := by simpa using hlen
  have : (execOp a.eval ⟨none, .store T x y, ty, pos, af, none⟩).run P W = .ok .skip W' := by
    simp [execOp, e1, hu, Instr.storeAt, Instr.sureAddr, storeVar, run_szOf hz, hn, h2]
  rw [this]
  have hk' : Keeps (fun k => k ∉ [b]) W W' := h3.mono fun k hk e => hk (by simp [e])
  exact ⟨hk', trivial, u, h4, Rd.keeps ⟨c, hc, hue⟩ hk' hX⟩
end
end Go.Eng
