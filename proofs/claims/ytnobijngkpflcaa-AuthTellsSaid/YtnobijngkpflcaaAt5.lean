/-
  The law AuthTells of package legatelaw15 returns true for every input, and leaves its arguments as they were. No condition beyond the row's own.
-/
import Derived.Test.YtnobijngkpflcaaAt4
import Derived.ProofKit
import Derived.Test.YtnobijngkpflcaaRows
namespace Go.Proofs.Ytnobijngkpflcaa
open Go.Eng
set_option maxRecDepth 100000 in
set_option maxHeartbeats 1000000 in
theorem refObj_ok (L : List Mb) (hs : AscM L) (hn : L.length ≤ 1000) (w : World) (S : BSet) (v : Value) (hv : Rd w S (mbsD L) v) : Calls Try.prog 124 #[v] w (Ret w fun r W => ∃ r1, r = .tuple #[r1, .int .i64 0] ∧ Rd W (Ar w S) (V.d (V.mk 5 0 ⟨#[]⟩ (L.map Mb.nm) (L.map Mb.v))) r1) := by
  obtain ⟨va, vc, ev, D_v⟩ := rdMbs_out (rd_arg hv)
  subst ev
  refine enter Try.func124 rfl Try.ntmps124 (lbr rfl) fun a0 y0 zz0 harg => ?_
  have e0 : sl a0 0 = (.slice va (L.length) vc) := harg 0 (lbr rfl)
  have kw := Keeps.refl All w
  clear harg
  refine wp_seq_k fun K1 hK1 => ?_
  refine rg mixed y0 zz0 ?_
  refine .alloc z33 ?_
  refine .i (sp_assign Has.cst) ?_
  refine .done ⟨by kernel_rfl, fun a2 g W2 y2 zz2 hk hg hV hR hP => ?_⟩
  obtain ⟨-, ⟨b2_2, e2, hb2, own_b2_2⟩, -⟩ := hV
  have lo_b2_2 : w.heap.size ≤ b2_2 := Nat.le_trans kw.size (hg.lo _ _ hb2)
  have own_b2_2 : Own W2 b2_2 [(.int .u8 (0)), (.int .i64 (0)), (.string (⟨#[]⟩)), (.slice none 0 0), (.slice none 0 0)] 33 := own_b2_2
  replace e0 := (hR 0 rfl).trans e0
  replace D_v := sa_more D_v hk [b2_2] (in_cons (hg.lo _ _ hb2) in_nil)
  replace kw := kw.x hk
  clear hR hk hg hP hb2
  refine tail_nil (hK1 _ _ ?_)
  refine wp_seq_k fun K3 hK3 => ?_
  refine rg mixed y2 zz2 ?_
  refine .i (v := (.agg #[(.int .u8 (5)), (.int .i64 (0)), (.string (⟨#[]⟩)), (.slice none 0 0), (.slice none 0 0)])) (sp_build (vs := [(0, (.int .u8 (5)))]) Try.underlying33 z33 (pl33 Try.underlying33) ⟨rfl, Has.cst, trivial⟩ rfl) ?_
  refine .alloc z33 ?_
  refine .done ⟨by kernel_rfl, fun a4 g W4 y4 zz4 hk hg hV hR hP => ?_⟩
  obtain ⟨⟨b4_4, e4, hb4, own_b4_4⟩, e9, -⟩ := hV
  have lo_b4_4 : w.heap.size ≤ b4_4 := Nat.le_trans kw.size (hg.lo _ _ hb4)
  have ne_b2_2_b4_4 : b2_2 ≠ b4_4 := Nat.ne_of_lt (Nat.lt_of_lt_of_le own_b2_2.lt (hg.lo _ _ hb4))
  have own_b4_4 : Own W4 b4_4 [(.int .u8 (0)), (.int .i64 (0)), (.string (⟨#[]⟩)), (.slice none 0 0), (.slice none 0 0)] 33 := own_b4_4
  replace e0 := (hR 0 rfl).trans e0
  replace e2 := (hR 2 rfl).trans e2
  replace D_v := sa_more D_v hk [b4_4] (in_cons (hg.lo _ _ hb4) in_nil)
  replace e9 := e9.q
  replace own_b2_2 := own_b2_2.ext hk
  replace kw := kw.x hk
  clear hR hk hg hP hb4
  refine tail_store (b := b4_4) (o := 0) (v := (.agg #[(.int .u8 (5)), (.int .i64 (0)), (.string (⟨#[]⟩)), (.slice none 0 0), (.slice none 0 0)])) e4 e9 sz33 rfl own_b4_4 (lbr rfl) (all_cons rfl (all_cons rfl (all_cons rfl (all_cons rfl (all_cons rfl all_nil))))) (fun W5 hs own_b4_4 => ?_)
  have own_b4_4 : Own W5 b4_4 [(.int .u8 (5)), (.int .i64 (0)), (.string (⟨#[]⟩)), (.slice none 0 0), (.slice none 0 0)] 33 := own_b4_4
  replace own_b2_2 := own_store own_b2_2 hs ne_b2_2_b4_4
  replace D_v := sa_store D_v hs (by simp)
  replace kw := keeps_store kw hs lo_b4_4
  clear hs
  refine tail_nil (hK3 _ _ ?_)
  refine wp_seq_k fun K6 hK6 => ?_
  refine wp_seq_k fun K7 hK7 => ?_
  refine rg mixed y4 zz4 ?_
  refine .i (sp_assign Has.cst) ?_
  refine .done ⟨by kernel_rfl, fun a8 g W8 y8 zz8 hk hg hV hR hP => ?_⟩
  obtain ⟨e5, -⟩ := hV
  replace e0 := (hR 0 rfl).trans e0
  replace e2 := (hR 2 rfl).trans e2
  replace e4 := (hR 4 rfl).trans e4
  replace D_v := D_v.ext hk
  have e5 : sl a8 5 = (.int .i64 (0)) := e5
  replace own_b2_2 := own_b2_2.ext hk
  replace own_b4_4 := own_b4_4.ext hk
  replace kw := kw.x hk
  clear hR hk hg hP
  refine tail_nil (hK7 _ _ ?_)
  refine wp_block ?_
  refine wp_for (L.length) (fun k a W => a.tmps.size = 102 ∧ a.defers = [] ∧ Keeps All w W ∧ sl a 0 = (.slice va (L.length) vc) ∧ sl a 2 = (.pointer (some ⟨b2_2, 0, none⟩)) ∧ sl a 4 = (.pointer (some ⟨b4_4, 0, none⟩)) ∧ sl a 5 = (.int .i64 ((k : Nat))) ∧ Own W b2_2 [(.int .u8 (0)), (.int .i64 (0)), (.string (⟨#[]⟩)), (.slice none 0 0), (.slice none 0 0)] 33 ∧ Own W b4_4 [(.int .u8 (5)), (.int .i64 (0)), (.string (⟨#[]⟩)), (.slice none 0 0), (.slice none 0 0)] 33 ∧ Rd W (SA w S [b4_4, b2_2]) (mbsD (L)) (.slice va (L.length) vc)) ⟨y8, zz8, kw, e0, e2, e4, (e5.trans (congrArg (Value.int .i64) (rfl))), own_b2_2, own_b4_4, D_v⟩ ?_
  clear kw e0 e2 e4 e5 own_b2_2 own_b4_4 D_v
  rintro k a9 W9 hkk ⟨y9, zz9, kw, e0, e2, e4, e5, own_b2_2, own_b4_4, D_v⟩
  refine wp_seq_k fun K10 hK10 => ?_
  refine wp_seq_k fun K11 hK11 => ?_
  refine rg mixed y9 zz9 ?_
  refine .i (sp_move (hbs rfl e5)) ?_
  refine .i (sp_move (hbs rfl e0)) ?_
  refine .i (sp_lenL Try.underlying106 ((hlc rfl).dat D_v sub_all)) ?_
  refine .i (sp_lss (hlc rfl) (hlc rfl)) ?_
  refine .done ⟨by kernel_rfl, fun a12 g W12 y12 zz12 hk hg hV hR hP => ?_⟩
  obtain ⟨e13, -, -, -, -⟩ := hV
  replace e0 := (hR 0 rfl).trans e0
  replace e2 := (hR 2 rfl).trans e2
  replace e4 := (hR 4 rfl).trans e4
  replace e5 := (hR 5 rfl).trans e5
  replace D_v := D_v.ext hk
  replace e13 := e13.q
  replace own_b2_2 := own_b2_2.ext hk
  replace own_b4_4 := own_b4_4.ext hk
  replace kw := kw.x hk
  clear hR hk hg hP
  refine tail_nil (hK11 _ _ ?_)
  refine wp_cond_split e13 (fun hc => ?_) (fun hc => ?_)
  ·
   have hlt : k < L.length := by simpa using hc
   refine wp_skip (hK10 _ _ ?_)
   refine wp_seq_k fun K13 hK13 => ?_
   refine wp_block ?_
   refine wp_seq_k fun K14 hK14 => ?_
   refine rg mixed y12 zz12 ?_
   refine .i (sp_assign Has.cst) ?_
   refine .done ⟨by kernel_rfl, fun a15 g W15 y15 zz15 hk hg hV hR hP => ?_⟩
   obtain ⟨e6, -⟩ := hV
   replace e0 := (hR 0 rfl).trans e0
   replace e2 := (hR 2 rfl).trans e2
   replace e4 := (hR 4 rfl).trans e4
   replace e5 := (hR 5 rfl).trans e5
   replace D_v := D_v.ext hk
   have e6 : sl a15 6 = (.int .i64 (0)) := e6
   replace own_b2_2 := own_b2_2.ext hk
   replace own_b4_4 := own_b4_4.ext hk
   replace kw := kw.x hk
   clear hR hk hg hP
   refine tail_nil (hK14 _ _ ?_)
   refine wp_block ?_
   refine wp_for (k) (fun j a W => a.tmps.size = 102 ∧ a.defers = [] ∧ Keeps All w W ∧ sl a 0 = (.slice va (L.length) vc) ∧ sl a 2 = (.pointer (some ⟨b2_2, 0, none⟩)) ∧ sl a 4 = (.pointer (some ⟨b4_4, 0, none⟩)) ∧ sl a 5 = (.int .i64 ((k : Nat))) ∧ sl a 6 = (.int .i64 ((j : Nat))) ∧ Own W b2_2 [(.int .u8 (0)), (.int .i64 (0)), (.string (⟨#[]⟩)), (.slice none 0 0), (.slice none 0 0)] 33 ∧ Own W b4_4 [(.int .u8 (5)), (.int .i64 (0)), (.string (⟨#[]⟩)), (.slice none 0 0), (.slice none 0 0)] 33 ∧ Rd W (SA w S [b4_4, b2_2]) (mbsD (L)) (.slice va (L.length) vc)) ⟨y15, zz15, kw, e0, e2, e4, e5, (e6.trans (congrArg (Value.int .i64) (rfl))), own_b2_2, own_b4_4, D_v⟩ ?_
   clear kw e0 e2 e4 e5 e6 own_b2_2 own_b4_4 D_v
   rintro j a16 W16 hkj ⟨y16, zz16, kw, e0, e2, e4, e5, e6, own_b2_2, own_b4_4, D_v⟩
   refine wp_seq_k fun K17 hK17 => ?_
   refine wp_seq_k fun K18 hK18 => ?_
   refine rg mixed y16 zz16 ?_
   refine .i (sp_move (hbs rfl e6)) ?_
   refine .i (sp_move (hbs rfl e5)) ?_
   refine .i (sp_lss (hlc rfl) (hlc rfl)) ?_
   refine .done ⟨by kernel_rfl, fun a19 g W19 y19 zz19 hk hg hV hR hP => ?_⟩
   obtain ⟨e18, -, -, -⟩ := hV
   replace e0 := (hR 0 rfl).trans e0
   replace e2 := (hR 2 rfl).trans e2
   replace e4 := (hR 4 rfl).trans e4
   replace e5 := (hR 5 rfl).trans e5
   replace e6 := (hR 6 rfl).trans e6
   replace D_v := D_v.ext hk
   replace e18 := e18.q
   replace own_b2_2 := own_b2_2.ext hk
   replace own_b4_4 := own_b4_4.ext hk
   replace kw := kw.x hk
   clear hR hk hg hP
   refine tail_nil (hK18 _ _ ?_)
   refine wp_cond_split e18 (fun hc => ?_) (fun hc => ?_)
   ·
    have hltj0 : j < k := by simpa using hc
    have hltj : j < L.length := by omega
    refine wp_skip (hK17 _ _ ?_)
    refine wp_seq_k fun K20 hK20 => ?_
    refine wp_block ?_
    refine wp_seq_k fun K21 hK21 => ?_
    refine rg mixed y19 zz19 ?_
    refine .i (sp_move (hbs rfl e0)) ?_
    refine .i (sp_move (hbs rfl e5)) ?_
    refine .rf (X := SA w S [b4_4, b2_2]) (e := Mb.d (L[k]'hlt)) (sp_indexL (i := k) ((hlc rfl).dat D_v sub_all) (hlc rfl) Try.underlying106 sz109 rfl hlt) ?_
    refine .rf (X := SA w S [b4_4, b2_2]) (e := D.str ((L[k]'hlt).nm)) (sp_fieldR (hlc rfl) Try.underlying109 rfl sz9 rfl (by first | rfl | simp [widths, width, hssD, width_V])) ?_
    refine .i (sp_loadStr (hlc rfl) agg9 sz9) ?_
    refine .i (sp_move (hbs rfl e0)) ?_
    refine .i (sp_move (hbs rfl e6)) ?_
    refine .rf (X := SA w S [b4_4, b2_2]) (e := Mb.d (L[j]'hltj)) (sp_indexL (i := j) ((hlc rfl).dat D_v sub_all) (hlc rfl) Try.underlying106 sz109 rfl hltj) ?_
    refine .rf (X := SA w S [b4_4, b2_2]) (e := D.str ((L[j]'hltj).nm)) (sp_fieldR (hlc rfl) Try.underlying109 rfl sz9 rfl (by first | rfl | simp [widths, width, hssD, width_V])) ?_
    refine .i (sp_loadStr (hlc rfl) agg9 sz9) ?_
    refine .i (sp_sEql (hlc rfl) (hlc rfl)) ?_
    refine .done ⟨by kernel_rfl, fun a22 g W22 y22 zz22 hk hg hV hR hP => ?_⟩
    obtain ⟨e31, -, -, -, -, -, -, -, -, -, -, -⟩ := hV
    replace e0 := (hR 0 rfl).trans e0
    replace e2 := (hR 2 rfl).trans e2
    replace e4 := (hR 4 rfl).trans e4
    replace e5 := (hR 5 rfl).trans e5
    replace e6 := (hR 6 rfl).trans e6
    replace D_v := D_v.ext hk
    replace e31 := e31.q
    replace own_b2_2 := own_b2_2.ext hk
    replace own_b4_4 := own_b4_4.ext hk
    replace kw := kw.x hk
    clear hR hk hg hP
    refine tail_nil (hK21 _ _ ?_)
    refine wp_cond_split e31 (fun hc => ?_) (fun hc => ?_)
    ·
     exact absurd (by simpa using hc) (ascM_ne hs hlt hltj hltj0)
    ·
     refine wp_skip (hK20 _ _ ?_)
     refine rg mixed y22 zz22 ?_
     refine .i (sp_move (hbs rfl e6)) ?_
     refine .i (sp_add (hlc rfl) Has.cst (i64_in (by omega))) ?_
     refine .i (sp_assign (hlc rfl)) ?_
     refine .done ⟨by kernel_rfl, fun a23 g W23 y23 zz23 hk hg hV hR hP => ?_⟩
     obtain ⟨e6, -, -, -⟩ := hV
     replace e0 := (hR 0 rfl).trans e0
     replace e2 := (hR 2 rfl).trans e2
     replace e4 := (hR 4 rfl).trans e4
     replace e5 := (hR 5 rfl).trans e5
     replace D_v := D_v.ext hk
     replace e6 := e6.q
     replace own_b2_2 := own_b2_2.ext hk
     replace own_b4_4 := own_b4_4.ext hk
     replace kw := kw.x hk
     clear hR hk hg hP
     exact tail_nil ⟨hltj0, y23, zz23, kw, e0, e2, e4, e5, (e6.trans (congrArg (Value.int .i64) (by simp))), own_b2_2, own_b4_4, D_v⟩
   ·
    refine wp_exit (hK13 _ _ ?_)
    refine rg mixed y19 zz19 ?_
    refine .i (sp_move (hbs rfl e5)) ?_
    refine .i (sp_add (hlc rfl) Has.cst (i64_in (by omega))) ?_
    refine .i (sp_assign (hlc rfl)) ?_
    refine .done ⟨by kernel_rfl, fun a24 g W24 y24 zz24 hk hg hV hR hP => ?_⟩
    obtain ⟨e5, -, -, -⟩ := hV
    replace e0 := (hR 0 rfl).trans e0
    replace e2 := (hR 2 rfl).trans e2
    replace e4 := (hR 4 rfl).trans e4
    replace D_v := D_v.ext hk
    replace e5 := e5.q
    replace own_b2_2 := own_b2_2.ext hk
    replace own_b4_4 := own_b4_4.ext hk
    replace kw := kw.x hk
    clear hR hk hg hP
    exact tail_nil ⟨hlt, y24, zz24, kw, e0, e2, e4, (e5.trans (congrArg (Value.int .i64) (by simp))), own_b2_2, own_b4_4, D_v⟩
  ·
   have hge0 : ¬ k < L.length := by simpa using hc
   have hge : k = L.length := by omega
   refine wp_exit (hK6 _ _ ?_)
   refine wp_seq_k fun K25 hK25 => ?_
   refine wp_block ?_
   have A_ar26 : Arr W12 w.heap.size 9 1 (SA w S (blks none ++ (b4_4 :: (b2_2 :: [])))) (List.map D.str ([])) (.slice none 0 0) none := arr_nil _ _ _ _ _
   replace D_v : Rd W12 (SA w S (blks none ++ (b4_4 :: (b2_2 :: [])))) (mbsD (L)) (.slice va (L.length) vc) := D_v
   have A_ar27 : Arr W12 w.heap.size 33 5 (SA w S (blks (none) ++ (blks none ++ (b4_4 :: (b2_2 :: []))))) (List.map V.d ([])) (.slice none 0 0) (none) := arr_nil _ _ _ _ _
   replace D_v : Rd W12 (SA w S (blks (none) ++ (blks none ++ (b4_4 :: (b2_2 :: []))))) (mbsD (L)) (.slice va (L.length) vc) := D_v
   replace A_ar26 : Arr W12 w.heap.size 9 1 (SA w S (blks (none) ++ (blks none ++ (b4_4 :: (b2_2 :: []))))) (List.map D.str ([])) (.slice none 0 0) none := A_ar26
   refine wp_for (L.length) (fun k a W => ∃ (va3_28 : Value), ∃ (hd3_28 : Option Nat), ∃ (va4_28 : Value), ∃ (hd4_28 : Option Nat), a.tmps.size = 102 ∧ a.defers = [] ∧ Keeps All w W ∧ sl a 0 = (.slice va (L.length) vc) ∧ sl a 2 = (.pointer (some ⟨b2_2, 0, none⟩)) ∧ sl a 4 = (.pointer (some ⟨b4_4, 0, none⟩)) ∧ Own W b2_2 [(.int .u8 (0)), (.int .i64 (0)), (.string (⟨#[]⟩)), (.slice none 0 0), (.slice none 0 0)] 33 ∧ Own W b4_4 [(.int .u8 (5)), (.int .i64 (0)), (.string (⟨#[]⟩)), va3_28, va4_28] 33 ∧ Rd W (SA w S (blks hd4_28 ++ (blks hd3_28 ++ (b4_4 :: (b2_2 :: []))))) (mbsD (L)) (.slice va (L.length) vc) ∧ Arr W w.heap.size 9 1 (SA w S (blks hd4_28 ++ (blks hd3_28 ++ (b4_4 :: (b2_2 :: []))))) (List.map D.str (List.map Mb.nm (L.take k))) va3_28 hd3_28 ∧ b2_2 ∉ blks hd3_28 ∧ b4_4 ∉ blks hd3_28 ∧ Arr W w.heap.size 33 5 (SA w S (blks hd4_28 ++ (blks hd3_28 ++ (b4_4 :: (b2_2 :: []))))) (List.map V.d (List.map Mb.v (L.take k))) va4_28 hd4_28 ∧ b2_2 ∉ blks hd4_28 ∧ b4_4 ∉ blks hd4_28 ∧ (∀ b ∈ blks hd3_28, b ∉ blks hd4_28)) ⟨(.slice none 0 0), none, (.slice none 0 0), (none), y12, zz12, kw, e0, e2, e4, own_b2_2, own_b4_4, D_v, A_ar26, nb_none, nb_none, A_ar27, nb_none, nb_none, (fun _ _ => nb_none)⟩ ?_
   clear kw e0 e2 e4 own_b2_2 own_b4_4 D_v A_ar26 A_ar27
   rintro k a28 W28 hkk ⟨va3_28, hd3_28, va4_28, hd4_28, y28, zz28, kw, e0, e2, e4, own_b2_2, own_b4_4, D_v, A3_28, nb_b2_2_ar26_28, nb_b4_4_ar26_28, A4_28, nb_b2_2_ar27_28, nb_b4_4_ar27_28, dj_ar26_ar27_28⟩
   refine wp_seq_k fun K29 hK29 => ?_
   refine wp_seq_k fun K30 hK30 => ?_
   refine rg mixed y28 zz28 ?_
   refine .i (fo 3 (hbs rfl e4) Try.underlying33 rfl sz23 rfl) ?_
   refine .i (lo1 (hlc rfl) own_b4_4 trivial agg23 sz23 rfl) ?_
   refine .i (sp_lenSs Try.underlying23 ((hlc rfl).dat (arr_rdU A3_28) sub_all)) ?_
   refine .i (sp_move (hbs rfl e0)) ?_
   refine .i (sp_lenL Try.underlying106 ((hlc rfl).dat D_v sub_all)) ?_
   refine .i (sp_lss (hlc rfl) (hlc rfl)) ?_
   refine .done ⟨by kernel_rfl, fun a31 g W31 y31 zz31 hk hg hV hR hP => ?_⟩
   obtain ⟨e38, -, -, -, -, -, -⟩ := hV
   replace e0 := (hR 0 rfl).trans e0
   replace e2 := (hR 2 rfl).trans e2
   replace e4 := (hR 4 rfl).trans e4
   replace A3_28 := A3_28.ext hk
   replace A4_28 := A4_28.ext hk
   replace D_v := D_v.ext hk
   replace e38 := e38.q
   replace own_b2_2 := own_b2_2.ext hk
   replace own_b4_4 := own_b4_4.ext hk
   replace kw := kw.x hk
   clear hR hk hg hP
   refine tail_nil (hK30 _ _ ?_)
   refine wp_cond_split e38 (fun hc => ?_) (fun hc => ?_)
   ·
    have hlk : (List.map Mb.nm (L.take k)).length = k := by simp; omega
    have hlt : k < L.length := by have := of_decide_eq_true hc; omega
    refine wp_skip (hK29 _ _ ?_)
    refine wp_block ?_
    refine wp_seq_k fun K32 hK32 => ?_
    refine rg mixed y31 zz31 ?_
    refine .i (sp_assign Has.cst) ?_
    refine .done ⟨by kernel_rfl, fun a33 g W33 y33 zz33 hk hg hV hR hP => ?_⟩
    obtain ⟨e7, -⟩ := hV
    replace e0 := (hR 0 rfl).trans e0
    replace e2 := (hR 2 rfl).trans e2
    replace e4 := (hR 4 rfl).trans e4
    replace A3_28 := A3_28.ext hk
    replace A4_28 := A4_28.ext hk
    replace D_v := D_v.ext hk
    have e7 : sl a33 7 = (.int .i64 (-1)) := e7
    replace own_b2_2 := own_b2_2.ext hk
    replace own_b4_4 := own_b4_4.ext hk
    replace kw := kw.x hk
    clear hR hk hg hP
    refine tail_nil (hK32 _ _ ?_)
    refine wp_seq_k fun K34 hK34 => ?_
    refine wp_seq_k fun K35 hK35 => ?_
    refine rg mixed y33 zz33 ?_
    refine .i (sp_assign Has.cst) ?_
    refine .done ⟨by kernel_rfl, fun a36 g W36 y36 zz36 hk hg hV hR hP => ?_⟩
    obtain ⟨e8, -⟩ := hV
    replace e0 := (hR 0 rfl).trans e0
    replace e2 := (hR 2 rfl).trans e2
    replace e4 := (hR 4 rfl).trans e4
    replace e7 := (hR 7 rfl).trans e7
    replace A3_28 := A3_28.ext hk
    replace A4_28 := A4_28.ext hk
    replace D_v := D_v.ext hk
    have e8 : sl a36 8 = (.int .i64 (0)) := e8
    replace own_b2_2 := own_b2_2.ext hk
    replace own_b4_4 := own_b4_4.ext hk
    replace kw := kw.x hk
    clear hR hk hg hP
    refine tail_nil (hK35 _ _ ?_)
    refine wp_block ?_
    refine wp_for (L.length) (fun j a W => ∃ (va3_37 : Value), ∃ (hd3_37 : Option Nat), ∃ (va4_37 : Value), ∃ (hd4_37 : Option Nat), a.tmps.size = 102 ∧ a.defers = [] ∧ Keeps All w W ∧ sl a 0 = (.slice va (L.length) vc) ∧ sl a 2 = (.pointer (some ⟨b2_2, 0, none⟩)) ∧ sl a 4 = (.pointer (some ⟨b4_4, 0, none⟩)) ∧ sl a 7 = (.int .i64 (if j ≤ k then (-1 : Int) else (k : Int))) ∧ sl a 8 = (.int .i64 ((j : Nat))) ∧ Own W b2_2 [(.int .u8 (0)), (.int .i64 (0)), (.string (⟨#[]⟩)), (.slice none 0 0), (.slice none 0 0)] 33 ∧ Own W b4_4 [(.int .u8 (5)), (.int .i64 (0)), (.string (⟨#[]⟩)), va3_37, va4_37] 33 ∧ Rd W (SA w S (blks hd4_37 ++ (blks hd3_37 ++ (b4_4 :: (b2_2 :: []))))) (mbsD (L)) (.slice va (L.length) vc) ∧ Arr W w.heap.size 9 1 (SA w S (blks hd4_37 ++ (blks hd3_37 ++ (b4_4 :: (b2_2 :: []))))) (List.map D.str (List.map Mb.nm (L.take k))) va3_37 hd3_37 ∧ b2_2 ∉ blks hd3_37 ∧ b4_4 ∉ blks hd3_37 ∧ Arr W w.heap.size 33 5 (SA w S (blks hd4_37 ++ (blks hd3_37 ++ (b4_4 :: (b2_2 :: []))))) (List.map V.d (List.map Mb.v (L.take k))) va4_37 hd4_37 ∧ b2_2 ∉ blks hd4_37 ∧ b4_4 ∉ blks hd4_37 ∧ (∀ b ∈ blks hd3_37, b ∉ blks hd4_37)) ⟨va3_28, hd3_28, va4_28, hd4_28, y36, zz36, kw, e0, e2, e4, (e7.trans (congrArg (Value.int .i64) (by rw [if_pos (by omega)]))), (e8.trans (congrArg (Value.int .i64) (rfl))), own_b2_2, own_b4_4, D_v, A3_28, nb_b2_2_ar26_28, nb_b4_4_ar26_28, A4_28, nb_b2_2_ar27_28, nb_b4_4_ar27_28, dj_ar26_ar27_28⟩ ?_
    clear kw e0 e2 e4 e7 e8 own_b2_2 own_b4_4 D_v A3_28 A4_28
    rintro j a37 W37 hkj ⟨va3_37, hd3_37, va4_37, hd4_37, y37, zz37, kw, e0, e2, e4, e7, e8, own_b2_2, own_b4_4, D_v, A3_37, nb_b2_2_ar26_37, nb_b4_4_ar26_37, A4_37, nb_b2_2_ar27_37, nb_b4_4_ar27_37, dj_ar26_ar27_37⟩
    refine wp_seq_k fun K38 hK38 => ?_
    refine wp_seq_k fun K39 hK39 => ?_
    refine rg mixed y37 zz37 ?_
    refine .i (sp_move (hbs rfl e8)) ?_
    refine .i (sp_move (hbs rfl e0)) ?_
    refine .i (sp_lenL Try.underlying106 ((hlc rfl).dat D_v sub_all)) ?_
    refine .i (sp_lss (hlc rfl) (hlc rfl)) ?_
    refine .done ⟨by kernel_rfl, fun a40 g W40 y40 zz40 hk hg hV hR hP => ?_⟩
    obtain ⟨e42, -, -, -, -⟩ := hV
    replace e0 := (hR 0 rfl).trans e0
    replace e2 := (hR 2 rfl).trans e2
    replace e4 := (hR 4 rfl).trans e4
    replace e7 := (hR 7 rfl).trans e7
    replace e8 := (hR 8 rfl).trans e8
    replace A3_37 := A3_37.ext hk
    replace A4_37 := A4_37.ext hk
    replace D_v := D_v.ext hk
    replace e42 := e42.q
    replace own_b2_2 := own_b2_2.ext hk
    replace own_b4_4 := own_b4_4.ext hk
    replace kw := kw.x hk
    clear hR hk hg hP
    refine tail_nil (hK39 _ _ ?_)
    refine wp_cond_split e42 (fun hc => ?_) (fun hc => ?_)
    ·
     have hltj : j < L.length := by simpa using hc
     refine wp_skip (hK38 _ _ ?_)
     refine wp_seq_k fun K41 hK41 => ?_
     refine wp_block ?_
     refine wp_seq_k fun K42 hK42 => ?_
     refine wp_seq_k fun K43 hK43 => ?_
     refine rg mixed y40 zz40 ?_
     refine .i (fo 3 (hbs rfl e4) Try.underlying33 rfl sz23 rfl) ?_
     refine .i (lo1 (hlc rfl) own_b4_4 trivial agg23 sz23 rfl) ?_
     refine .i (sp_lenSs Try.underlying23 ((hlc rfl).dat (arr_rdU A3_37) sub_all)) ?_
     refine .i (sp_gtr (hlc rfl) Has.cst) ?_
     refine .i (sp_move (hlc rfl)) ?_
     refine .e (t := 49) rfl (hlc rfl) (fun hg => sp_move (hbs rfl e0)) ?_
     refine .e (t := 49) rfl (hlc rfl) (fun hg => sp_move (hbs rfl e8)) ?_
     refine .opE (t := 49) (φ := IsR (SA w S (blks hd4_37 ++ (blks hd3_37 ++ (b4_4 :: (b2_2 :: []))))) (Mb.d (L[j]'hltj))) rfl (hlc rfl) (st_r sub_all) (fun hg => sp_indexL (i := j) (((hlc rfl).undE hg).dat D_v sub_all) ((hlc rfl).undE hg) Try.underlying106 sz109 rfl hltj) ?_
     refine .opE (t := 49) (φ := IsR (SA w S (blks hd4_37 ++ (blks hd3_37 ++ (b4_4 :: (b2_2 :: []))))) (D.str ((L[j]'hltj).nm))) rfl (hlc rfl) (st_r sub_all) (fun hg => sp_fieldR ((hlc rfl).undE hg) Try.underlying109 rfl sz9 rfl (by first | rfl | simp [widths, width, hssD, width_V])) ?_
     refine .e (t := 49) rfl (hlc rfl) (fun hg => sp_loadStr ((hlc rfl).undE hg) agg9 sz9) ?_
     refine .e (t := 49) rfl (hlc rfl) (fun hg => fo 3 (hbs rfl e4) Try.underlying33 rfl sz23 rfl) ?_
     refine .e (t := 49) rfl (hlc rfl) (fun hg => lo1 ((hlc rfl).undE hg) own_b4_4 trivial agg23 sz23 rfl) ?_
     refine .e (t := 49) rfl (hlc rfl) (fun hg => fo 3 (hbs rfl e4) Try.underlying33 rfl sz23 rfl) ?_
     refine .e (t := 49) rfl (hlc rfl) (fun hg => lo1 ((hlc rfl).undE hg) own_b4_4 trivial agg23 sz23 rfl) ?_
     refine .e (t := 49) rfl (hlc rfl) (fun hg => sp_lenSs Try.underlying23 (((hlc rfl).undE hg).dat (arr_rdU A3_37) sub_all)) ?_
     refine .e (t := 49) rfl (hlc rfl) (fun hg => sp_sub ((hlc rfl).undE hg) Has.cst (i64_in (by omega))) ?_
     refine .opE (t := 49) (φ := IsR (AnyS) (D.str ((List.map Mb.nm (L.take k)).getD ((List.map Mb.nm (L.take k)).length - 1) ⟨#[]⟩))) rfl (hlc rfl) (st_r sub_all) (fun hg => sp_indexSD (i := ((List.map Mb.nm (L.take k)).length - 1)) (((hlc rfl).undE hg).dat (arr_rdU A3_37) sub_all) ((hlc rfl).undE hg) Try.underlying23 sz9 (by have := of_decide_eq_true hg; omega) (by have := of_decide_eq_true hg; omega)) ?_
     refine .e (t := 49) rfl (hlc rfl) (fun hg => sp_loadStr ((hlc rfl).undE hg) agg9 sz9) ?_
     refine .e (t := 49) rfl (hlc rfl) (fun hg => sp_sLeq ((hlc rfl).undE hg) ((hlc rfl).undE hg)) ?_
     refine .i (sp_and (hlc rfl) ((hlc rfl).weak fun hq => hq)) ?_
     refine .done ⟨by kernel_rfl, fun a44 g W44 y44 zz44 hk hg hV hR hP => ?_⟩
     obtain ⟨e64, -, -, -, -, -, -, -, -, -, -, -, -, -, -, -, -, -, -, -, -⟩ := hV
     replace e0 := (hR 0 rfl).trans e0
     replace e2 := (hR 2 rfl).trans e2
     replace e4 := (hR 4 rfl).trans e4
     replace e7 := (hR 7 rfl).trans e7
     replace e8 := (hR 8 rfl).trans e8
     replace A3_37 := A3_37.ext hk
     replace A4_37 := A4_37.ext hk
     replace D_v := D_v.ext hk
     replace e64 := e64.q
     replace own_b2_2 := own_b2_2.ext hk
     replace own_b4_4 := own_b4_4.ext hk
     replace kw := kw.x hk
     clear hR hk hg hP
     refine tail_nil (hK43 _ _ ?_)
     refine wp_cond_split e64 (fun hc => ?_) (fun hc => ?_)
     ·
      have hjk : j < k := by have h := hc; rw [skip_eq hs (by omega) hltj] at h; exact of_decide_eq_true h
      refine wp_exit (hK41 _ _ ?_)
      refine rg mixed y44 zz44 ?_
      refine .i (sp_move (hbs rfl e8)) ?_
      refine .i (sp_add (hlc rfl) Has.cst (i64_in (by omega))) ?_
      refine .i (sp_assign (hlc rfl)) ?_
      refine .done ⟨by kernel_rfl, fun a45 g W45 y45 zz45 hk hg hV hR hP => ?_⟩
      obtain ⟨e8, -, -, -⟩ := hV
      replace e0 := (hR 0 rfl).trans e0
      replace e2 := (hR 2 rfl).trans e2
      replace e4 := (hR 4 rfl).trans e4
      replace e7 := (hR 7 rfl).trans e7
      replace A3_37 := A3_37.ext hk
      replace A4_37 := A4_37.ext hk
      replace D_v := D_v.ext hk
      replace e8 := e8.q
      replace own_b2_2 := own_b2_2.ext hk
      replace own_b4_4 := own_b4_4.ext hk
      replace kw := kw.x hk
      clear hR hk hg hP
      exact tail_nil ⟨hltj, va3_37, hd3_37, va4_37, hd4_37, y45, zz45, kw, e0, e2, e4, (e7.trans (congrArg (Value.int .i64) (by (repeat split) <;> omega))), (e8.trans (congrArg (Value.int .i64) (by simp))), own_b2_2, own_b4_4, D_v, A3_37, nb_b2_2_ar26_37, nb_b4_4_ar26_37, A4_37, nb_b2_2_ar27_37, nb_b4_4_ar27_37, dj_ar26_ar27_37⟩
     ·
      have hjk : k ≤ j := by have h := hc; rw [skip_eq hs (by omega) hltj] at h; have := of_decide_eq_false h; omega
      refine wp_skip (hK42 _ _ ?_)
      refine wp_seq_k fun K46 hK46 => ?_
      refine rg mixed y44 zz44 ?_
      refine .i (sp_move (hbs rfl e7)) ?_
      refine .i (sp_lss (hlc rfl) Has.cst) ?_
      refine .i (sp_move (hlc rfl)) ?_
      refine .e (t := 67) rfl (hlc rfl) (fun hg => sp_move (hbs rfl e0)) ?_
      refine .e (t := 67) rfl (hlc rfl) (fun hg => sp_move (hbs rfl e8)) ?_
      refine .opE (t := 67) (φ := IsR (SA w S (blks hd4_37 ++ (blks hd3_37 ++ (b4_4 :: (b2_2 :: []))))) (Mb.d (L[j]'hltj))) rfl (hlc rfl) (st_r sub_all) (fun hg => sp_indexL (i := j) (((hlc rfl).undE hg).dat D_v sub_all) ((hlc rfl).undE hg) Try.underlying106 sz109 rfl hltj) ?_
      refine .opE (t := 67) (φ := IsR (SA w S (blks hd4_37 ++ (blks hd3_37 ++ (b4_4 :: (b2_2 :: []))))) (D.str ((L[j]'hltj).nm))) rfl (hlc rfl) (st_r sub_all) (fun hg => sp_fieldR ((hlc rfl).undE hg) Try.underlying109 rfl sz9 rfl (by first | rfl | simp [widths, width, hssD, width_V])) ?_
      refine .e (t := 67) rfl (hlc rfl) (fun hg => sp_loadStr ((hlc rfl).undE hg) agg9 sz9) ?_
      refine .e (t := 67) rfl (hlc rfl) (fun hg => sp_move (hbs rfl e0)) ?_
      refine .e (t := 67) rfl (hlc rfl) (fun hg => sp_move (hbs rfl e7)) ?_
      refine .opE (t := 67) (φ := IsR (SA w S (blks hd4_37 ++ (blks hd3_37 ++ (b4_4 :: (b2_2 :: []))))) (Mb.d (L[k]'hlt))) rfl (hlc rfl) (st_r sub_all) (fun hg => sp_indexL (i := k) (((hlc rfl).undE hg).dat D_v sub_all) ((hlc rfl).undE hg) Try.underlying106 sz109 (by first | exact atI hg | rw [if_neg (by omega)]) hlt) ?_
      refine .opE (t := 67) (φ := IsR (SA w S (blks hd4_37 ++ (blks hd3_37 ++ (b4_4 :: (b2_2 :: []))))) (D.str ((L[k]'hlt).nm))) rfl (hlc rfl) (st_r sub_all) (fun hg => sp_fieldR ((hlc rfl).undE hg) Try.underlying109 rfl sz9 rfl (by first | rfl | simp [widths, width, hssD, width_V])) ?_
      refine .e (t := 67) rfl (hlc rfl) (fun hg => sp_loadStr ((hlc rfl).undE hg) agg9 sz9) ?_
      refine .e (t := 67) rfl (hlc rfl) (fun hg => sp_sLss ((hlc rfl).undE hg) ((hlc rfl).undE hg)) ?_
      refine .i (sp_or (hlc rfl) ((hlc rfl).weak fun hq => hq)) ?_
      refine .done ⟨by kernel_rfl, fun a47 g W47 y47 zz47 hk hg hV hR hP => ?_⟩
      obtain ⟨e79, -, -, -, -, -, -, -, -, -, -, -, -, -, -, -⟩ := hV
      replace e0 := (hR 0 rfl).trans e0
      replace e2 := (hR 2 rfl).trans e2
      replace e4 := (hR 4 rfl).trans e4
      replace e7 := (hR 7 rfl).trans e7
      replace e8 := (hR 8 rfl).trans e8
      replace A3_37 := A3_37.ext hk
      replace A4_37 := A4_37.ext hk
      replace D_v := D_v.ext hk
      replace e79 := e79.q
      replace own_b2_2 := own_b2_2.ext hk
      replace own_b4_4 := own_b4_4.ext hk
      replace kw := kw.x hk
      clear hR hk hg hP
      refine tail_nil (hK46 _ _ ?_)
      refine wp_cond_split e79 (fun hc => ?_) (fun hc => ?_)
      ·
       have hje : j = k := by have h := hc; rw [pick_eq hs hlt hltj hjk] at h; exact of_decide_eq_true h
       refine rg mixed y47 zz47 ?_
       refine .i (sp_move (hbs rfl e8)) ?_
       refine .i (sp_assign (hlc rfl)) ?_
       refine .done ⟨by kernel_rfl, fun a48 g W48 y48 zz48 hk hg hV hR hP => ?_⟩
       obtain ⟨e7, -, -⟩ := hV
       replace e0 := (hR 0 rfl).trans e0
       replace e2 := (hR 2 rfl).trans e2
       replace e4 := (hR 4 rfl).trans e4
       replace e8 := (hR 8 rfl).trans e8
       replace A3_37 := A3_37.ext hk
       replace A4_37 := A4_37.ext hk
       replace D_v := D_v.ext hk
       have e7 : sl a48 7 = (.int .i64 ((j : Nat))) := e7
       replace own_b2_2 := own_b2_2.ext hk
       replace own_b4_4 := own_b4_4.ext hk
       replace kw := kw.x hk
       clear hR hk hg hP
       refine tail_nil (hK41 _ _ ?_)
       refine rg mixed y48 zz48 ?_
       refine .i (sp_move (hbs rfl e8)) ?_
       refine .i (sp_add (hlc rfl) Has.cst (i64_in (by omega))) ?_
       refine .i (sp_assign (hlc rfl)) ?_
       refine .done ⟨by kernel_rfl, fun a49 g W49 y49 zz49 hk hg hV hR hP => ?_⟩
       obtain ⟨e8, -, -, -⟩ := hV
       replace e0 := (hR 0 rfl).trans e0
       replace e2 := (hR 2 rfl).trans e2
       replace e4 := (hR 4 rfl).trans e4
       replace e7 := (hR 7 rfl).trans e7
       replace A3_37 := A3_37.ext hk
       replace A4_37 := A4_37.ext hk
       replace D_v := D_v.ext hk
       replace e8 := e8.q
       replace own_b2_2 := own_b2_2.ext hk
       replace own_b4_4 := own_b4_4.ext hk
       replace kw := kw.x hk
       clear hR hk hg hP
       exact tail_nil ⟨hltj, va3_37, hd3_37, va4_37, hd4_37, y49, zz49, kw, e0, e2, e4, (e7.trans (congrArg (Value.int .i64) (by (repeat split) <;> omega))), (e8.trans (congrArg (Value.int .i64) (by simp))), own_b2_2, own_b4_4, D_v, A3_37, nb_b2_2_ar26_37, nb_b4_4_ar26_37, A4_37, nb_b2_2_ar27_37, nb_b4_4_ar27_37, dj_ar26_ar27_37⟩
      ·
       have hje : j ≠ k := by have h := hc; rw [pick_eq hs hlt hltj hjk] at h; exact of_decide_eq_false h
       refine wp_skip (hK41 _ _ ?_)
       refine rg mixed y47 zz47 ?_
       refine .i (sp_move (hbs rfl e8)) ?_
       refine .i (sp_add (hlc rfl) Has.cst (i64_in (by omega))) ?_
       refine .i (sp_assign (hlc rfl)) ?_
       refine .done ⟨by kernel_rfl, fun a50 g W50 y50 zz50 hk hg hV hR hP => ?_⟩
       obtain ⟨e8, -, -, -⟩ := hV
       replace e0 := (hR 0 rfl).trans e0
       replace e2 := (hR 2 rfl).trans e2
       replace e4 := (hR 4 rfl).trans e4
       replace e7 := (hR 7 rfl).trans e7
       replace A3_37 := A3_37.ext hk
       replace A4_37 := A4_37.ext hk
       replace D_v := D_v.ext hk
       replace e8 := e8.q
       replace own_b2_2 := own_b2_2.ext hk
       replace own_b4_4 := own_b4_4.ext hk
       replace kw := kw.x hk
       clear hR hk hg hP
       exact tail_nil ⟨hltj, va3_37, hd3_37, va4_37, hd4_37, y50, zz50, kw, e0, e2, e4, (e7.trans (congrArg (Value.int .i64) (by (repeat split) <;> omega))), (e8.trans (congrArg (Value.int .i64) (by simp))), own_b2_2, own_b4_4, D_v, A3_37, nb_b2_2_ar26_37, nb_b4_4_ar26_37, A4_37, nb_b2_2_ar27_37, nb_b4_4_ar27_37, dj_ar26_ar27_37⟩
    ·
     have hgj : j = L.length := by have := of_decide_eq_false hc; omega
     refine wp_exit (hK34 _ _ ?_)
     refine wp_seq_k fun K51 hK51 => ?_
     refine wp_reg (fun k => k ∉ blks hd3_37) (Ψ := fun W => Arr W w.heap.size 9 1 (SA w S (blks hd4_37 ++ (blks hd3_37 ++ (b4_4 :: (b2_2 :: []))))) (List.map D.str (List.map Mb.nm (L.take k))) va3_37 hd3_37) mixed y40 zz40 (fun W W' k h => h.ext k) A3_37 ?_
     refine .i (fo 3 (hbs rfl e4) Try.underlying33 rfl sz23 rfl) ?_
     refine .i (lo1 (hlc rfl) own_b4_4 nb_b4_4_ar26_37 agg23 sz23 rfl) ?_
     refine .i (sp_move (hbs rfl e0)) ?_
     refine .i (sp_move (hbs rfl e7)) ?_
     refine .op (φ := IsR (SA w S (blks hd4_37 ++ (blks hd3_37 ++ (b4_4 :: (b2_2 :: []))))) (Mb.d (L[k]'hlt))) (st_r (sub_nb (fun b hb => List.mem_append_right _ (List.mem_append_left _ hb)))) (sp_indexL (i := k) ((hlc rfl).dat D_v (sub_nb (fun b hb => List.mem_append_right _ (List.mem_append_left _ hb)))) (hlc rfl) Try.underlying106 sz109 (by first | exact atI hg | rw [if_neg (by omega)]) hlt) ?_
     refine .op (φ := IsR (SA w S (blks hd4_37 ++ (blks hd3_37 ++ (b4_4 :: (b2_2 :: []))))) (D.str ((L[k]'hlt).nm))) (st_r (sub_nb (fun b hb => List.mem_append_right _ (List.mem_append_left _ hb)))) (sp_fieldR (hlc rfl) Try.underlying109 rfl sz9 rfl (by first | rfl | simp [widths, width, hssD, width_V])) ?_
     refine .i (sp_loadStr (hlc rfl) agg9 sz9) ?_
     refine .op (φ := IsD (SA w S (blks hd4_37 ++ (blks hd3_37 ++ (b4_4 :: (b2_2 :: []))))) (strsD ([(L[k]'hlt).nm]))) (st_d (sub_nb (fun b hb => List.mem_append_right _ (List.mem_append_left _ hb)))) (sp_bsl (ds := [D.str ((L[k]'hlt).nm)]) Try.underlying23 sz9 z9 (lbr rfl) (lbr rfl) ⟨rfl, ((hlc rfl).str (rdMbs_at D_v hlt)), trivial⟩ rfl (by simp [width]) (fr_sa kw (in_app A4_37.lt (in_app A3_37.lt (in_cons own_b4_4.lt (in_cons own_b2_2.lt in_nil)))))) ?_
     refine .appB (ds := List.map D.str (List.map Mb.nm (L.take k))) (es := [D.str ((L[k]'hlt).nm)]) (X := SA w S (blks hd4_37 ++ (blks hd3_37 ++ (b4_4 :: (b2_2 :: []))))) Try.underlying23 inf9 (lbr rfl) (hlc rfl) (hlc rfl) (sub_nb (fun b hb => List.mem_append_right _ (List.mem_append_left _ hb))) (by simp [maxLen]; omega) (by simp; omega) kw.size ?_
     refine .i (fo 3 (hbs rfl e4) Try.underlying33 rfl sz23 rfl) ?_
     refine .done ⟨by kernel_rfl, fun a52 g W52 y52 zz52 hk hg hV hR hP => ?_⟩
     obtain ⟨e90, e89, -, -, -, -, -, -, -, -, -⟩ := hV
     replace e0 := (hR 0 rfl).trans e0
     replace e2 := (hR 2 rfl).trans e2
     replace e4 := (hR 4 rfl).trans e4
     replace e7 := (hR 7 rfl).trans e7
     obtain ⟨v89_52, ev⟩ : ∃ v, sl a52 89 = v := ⟨_, rfl⟩
     rw [ev] at e89
     obtain ⟨hd89_52, A_89_52, hf89_52⟩ := e89
     have e89 := ev; clear ev
     obtain ⟨v89_52a, v89_52n, v89_52c, ev⟩ := arr_sl A_89_52; subst ev
     replace A_89_52 := arrA_new (M' := (blks hd4_37 ++ (blks hd89_52 ++ (b4_4 :: (b2_2 :: []))))) A_89_52 (rep_app rep_refl (rep_app (rep_q fun _ h => h) (rep_cons (rep_cons rep_nil))))
     replace A_89_52 : Arr W52 w.heap.size 9 1 (SA w S (blks hd4_37 ++ (blks hd89_52 ++ (b4_4 :: (b2_2 :: []))))) (List.map D.str ((List.map Mb.nm (L.take k)) ++ [(L[k]'hlt).nm])) (.slice v89_52a v89_52n v89_52c) hd89_52 := by first | exact A_89_52 | (rw [List.map_append]; exact A_89_52)
     have nb_b2_2_52 : b2_2 ∉ blks hd89_52 := nb_new nb_b2_2_ar26_37 own_b2_2.lt hf89_52
     have nb_b4_4_52 : b4_4 ∉ blks hd89_52 := nb_new nb_b4_4_ar26_37 own_b4_4.lt hf89_52
     have dj_ar27_52 : ∀ b ∈ blks hd4_37, b ∉ blks hd89_52 := dj_new (dj_symm dj_ar26_ar27_37) A4_37.lt hf89_52
     replace A4_37 := arrA_app (M' := (blks hd4_37 ++ (blks hd89_52 ++ (b4_4 :: (b2_2 :: []))))) A4_37 hk (fun b hb => List.mem_append_right _ (List.mem_append_left _ hb)) (rep_app rep_refl (rep_app hf89_52 (rep_cons (rep_cons rep_nil)))) (dj_symm dj_ar26_ar27_37)
     replace D_v := sa_app (M' := (blks hd4_37 ++ (blks hd89_52 ++ (b4_4 :: (b2_2 :: []))))) D_v hk (fun b hb => List.mem_append_right _ (List.mem_append_left _ hb)) (rep_app rep_refl (rep_app hf89_52 (rep_cons (rep_cons rep_nil))))
     replace own_b2_2 := own_app own_b2_2 hk nb_b2_2_ar26_37
     replace own_b4_4 := own_app own_b4_4 hk nb_b4_4_ar26_37
     replace kw := keeps_app kw hk A3_37.ge
     have e90 : sl a52 90 = (.pointer (some ⟨b4_4, 3, none⟩)) := e90
     clear hR hk hg hP hf89_52 A3_37
     refine tail_store (b := b4_4) (o := 3) (v := (.slice v89_52a v89_52n v89_52c)) e90 e89 sz23 rfl own_b4_4 (lbr rfl) (all_cons rfl all_nil) (fun W53 hs own_b4_4 => ?_)
     have own_b4_4 : Own W53 b4_4 [(.int .u8 (5)), (.int .i64 (0)), (.string (⟨#[]⟩)), (.slice v89_52a v89_52n v89_52c), va4_37] 33 := own_b4_4
     replace own_b2_2 := own_store own_b2_2 hs ne_b2_2_b4_4
     replace D_v := sa_store D_v hs (by simp)
     replace A_89_52 := arrA_store A_89_52 hs (by simp) nb_b4_4_52
     replace A4_37 := arrA_store A4_37 hs (by simp) nb_b4_4_ar27_37
     replace kw := keeps_store kw hs lo_b4_4
     clear hs
     refine tail_nil (hK51 _ _ ?_)
     refine wp_reg (fun k => k ∉ blks hd4_37) (Ψ := fun W => Arr W w.heap.size 33 5 (SA w S (blks hd4_37 ++ (blks hd89_52 ++ (b4_4 :: (b2_2 :: []))))) (List.map V.d (List.map Mb.v (L.take k))) va4_37 hd4_37) mixed y52 zz52 (fun W W' k h => h.ext k) A4_37 ?_
     refine .i (fo 4 (hbs rfl e4) Try.underlying33 rfl sz31 rfl) ?_
     refine .i (lo1 (hlc rfl) own_b4_4 nb_b4_4_ar27_37 agg31 sz31 rfl) ?_
     refine .i (sp_move (hbs rfl e0)) ?_
     refine .i (sp_move (hbs rfl e7)) ?_
     refine .op (φ := IsR (SA w S (blks hd4_37 ++ (blks hd89_52 ++ (b4_4 :: (b2_2 :: []))))) (Mb.d (L[k]'hlt))) (st_r (sub_nb (fun b hb => List.mem_append_left _ hb))) (sp_indexL (i := k) ((hlc rfl).dat D_v (sub_nb (fun b hb => List.mem_append_left _ hb))) (hlc rfl) Try.underlying106 sz109 (by first | exact atI hg | rw [if_neg (by omega)]) hlt) ?_
     refine .op (φ := IsR (SA w S (blks hd4_37 ++ (blks hd89_52 ++ (b4_4 :: (b2_2 :: []))))) (V.d ((L[k]'hlt).v))) (st_r (sub_nb (fun b hb => List.mem_append_left _ hb))) (sp_fieldR (hlc rfl) Try.underlying109 rfl sz33 rfl (by first | rfl | simp [widths, width, hssD, width_V])) ?_
     refine .op (φ := IsD (SA w S (blks hd4_37 ++ (blks hd89_52 ++ (b4_4 :: (b2_2 :: []))))) (V.d ((L[k]'hlt).v))) (st_d (sub_nb (fun b hb => List.mem_append_left _ hb))) (sp_loadV (hlc rfl) agg33 sz33) ?_
     refine .op (φ := IsD (SA w S (blks hd4_37 ++ (blks hd89_52 ++ (b4_4 :: (b2_2 :: []))))) (valsD ([(L[k]'hlt).v]))) (st_d (sub_nb (fun b hb => List.mem_append_left _ hb))) (sp_bsl (ds := [V.d ((L[k]'hlt).v)]) Try.underlying31 sz33 z33 (lbr rfl) (lbr rfl) ⟨rfl, (hlc rfl), trivial⟩ rfl (by intro e he; simp at he; rcases he with rfl <;> exact width_V _) (fr_sa kw (in_app A4_37.lt (in_app A_89_52.lt (in_cons own_b4_4.lt (in_cons own_b2_2.lt in_nil)))))) ?_
     refine .appB (ds := List.map V.d (List.map Mb.v (L.take k))) (es := [V.d ((L[k]'hlt).v)]) (X := SA w S (blks hd4_37 ++ (blks hd89_52 ++ (b4_4 :: (b2_2 :: []))))) Try.underlying31 inf33 (lbr rfl) (hlc rfl) (hlc rfl) (sub_nb (fun b hb => List.mem_append_left _ hb)) (by simp [maxLen]; omega) (by simp; omega) kw.size ?_
     refine .i (fo 4 (hbs rfl e4) Try.underlying33 rfl sz31 rfl) ?_
     refine .done ⟨by kernel_rfl, fun a54 g W54 y54 zz54 hk hg hV hR hP => ?_⟩
     obtain ⟨e100, e99, -, -, -, -, -, -, -, -, -⟩ := hV
     replace e0 := (hR 0 rfl).trans e0
     replace e2 := (hR 2 rfl).trans e2
     replace e4 := (hR 4 rfl).trans e4
     obtain ⟨v99_54, ev⟩ : ∃ v, sl a54 99 = v := ⟨_, rfl⟩
     rw [ev] at e99
     obtain ⟨hd99_54, A_99_54, hf99_54⟩ := e99
     have e99 := ev; clear ev
     obtain ⟨v99_54a, v99_54n, v99_54c, ev⟩ := arr_sl A_99_54; subst ev
     replace A_99_54 := arrA_new (M' := (blks hd99_54 ++ (blks hd89_52 ++ (b4_4 :: (b2_2 :: []))))) A_99_54 (rep_app (rep_q fun _ h => h) (rep_app rep_refl (rep_cons (rep_cons rep_nil))))
     replace A_99_54 : Arr W54 w.heap.size 33 5 (SA w S (blks hd99_54 ++ (blks hd89_52 ++ (b4_4 :: (b2_2 :: []))))) (List.map V.d ((List.map Mb.v (L.take k)) ++ [(L[k]'hlt).v])) (.slice v99_54a v99_54n v99_54c) hd99_54 := by first | exact A_99_54 | (rw [List.map_append]; exact A_99_54)
     have nb_b2_2_54 : b2_2 ∉ blks hd99_54 := nb_new nb_b2_2_ar27_37 own_b2_2.lt hf99_54
     have nb_b4_4_54 : b4_4 ∉ blks hd99_54 := nb_new nb_b4_4_ar27_37 own_b4_4.lt hf99_54
     have dj_ar26_54 : ∀ b ∈ blks hd89_52, b ∉ blks hd99_54 := dj_new (dj_symm dj_ar27_52) A_89_52.lt hf99_54
     replace A_89_52 := arrA_app (M' := (blks hd99_54 ++ (blks hd89_52 ++ (b4_4 :: (b2_2 :: []))))) A_89_52 hk (fun b hb => List.mem_append_left _ hb) (rep_app hf99_54 (rep_app rep_refl (rep_cons (rep_cons rep_nil)))) (dj_symm dj_ar27_52)
     replace D_v := sa_app (M' := (blks hd99_54 ++ (blks hd89_52 ++ (b4_4 :: (b2_2 :: []))))) D_v hk (fun b hb => List.mem_append_left _ hb) (rep_app hf99_54 (rep_app rep_refl (rep_cons (rep_cons rep_nil))))
     replace own_b2_2 := own_app own_b2_2 hk nb_b2_2_ar27_37
     replace own_b4_4 := own_app own_b4_4 hk nb_b4_4_ar27_37
     replace kw := keeps_app kw hk A4_37.ge
     have e100 : sl a54 100 = (.pointer (some ⟨b4_4, 4, none⟩)) := e100
     clear hR hk hg hP hf99_54 A4_37
     refine tail_store (b := b4_4) (o := 4) (v := (.slice v99_54a v99_54n v99_54c)) e100 e99 sz31 rfl own_b4_4 (lbr rfl) (all_cons rfl all_nil) (fun W55 hs own_b4_4 => ?_)
     have own_b4_4 : Own W55 b4_4 [(.int .u8 (5)), (.int .i64 (0)), (.string (⟨#[]⟩)), (.slice v89_52a v89_52n v89_52c), (.slice v99_54a v99_54n v99_54c)] 33 := own_b4_4
     replace own_b2_2 := own_store own_b2_2 hs ne_b2_2_b4_4
     replace D_v := sa_store D_v hs (by simp)
     replace A_89_52 := arrA_store A_89_52 hs (by simp) nb_b4_4_52
     replace A_99_54 := arrA_store A_99_54 hs (by simp) nb_b4_4_54
     replace kw := keeps_store kw hs lo_b4_4
     clear hs
     rw [show (List.map Mb.nm (L.take k)) ++ [(L[k]'hlt).nm] = List.map Mb.nm (L.take (k + 1)) by rw [List.take_succ_eq_append_getElem hlt, List.map_append]; rfl] at A_89_52
     rw [show (List.map Mb.v (L.take k)) ++ [(L[k]'hlt).v] = List.map Mb.v (L.take (k + 1)) by rw [List.take_succ_eq_append_getElem hlt, List.map_append]; rfl] at A_99_54
     exact tail_nil ⟨hlt, (.slice v89_52a v89_52n v89_52c), hd89_52, (.slice v99_54a v99_54n v99_54c), hd99_54, y54, zz54, kw, e0, e2, e4, own_b2_2, own_b4_4, D_v, A_89_52, nb_b2_2_52, nb_b4_4_52, A_99_54, nb_b2_2_54, nb_b4_4_54, dj_ar26_54⟩
   ·
    have hlk : (List.map Mb.nm (L.take k)).length = k := by simp; omega
    have hge : k = L.length := by have := of_decide_eq_false hc; omega
    rw [show List.map Mb.nm (L.take k) = List.map Mb.nm L by rw [hge, List.take_length]] at A3_28
    have D_va3_28 : Rd W31 (SA w S (blks hd4_28 ++ (b4_4 :: (b2_2 :: [])))) (strsD (List.map Mb.nm L)) va3_28 := arrA_rd A3_28 (ls_keepA (ls_skipA (ls_keep (ls_keep ls_nil)))) (nin_app dj_ar26_ar27_28 (nin_cons nb_b4_4_ar26_28 (nin_cons nb_b2_2_ar26_28 nin_nil)))
    obtain ⟨va3_28a, va3_28c, ev, D2⟩ := rdS_out D_va3_28
    subst ev; replace D_va3_28 := D2; clear D2
    replace D_v := sa_less (M' := (blks hd4_28 ++ (b4_4 :: (b2_2 :: [])))) D_v (ls_keepA (ls_skipA (ls_keep (ls_keep ls_nil))))
    replace A4_28 := arrA_less (M' := (blks hd4_28 ++ (b4_4 :: (b2_2 :: [])))) A4_28 (ls_keepA (ls_skipA (ls_keep (ls_keep ls_nil))))
    rw [show List.map Mb.v (L.take k) = List.map Mb.v L by rw [hge, List.take_length]] at A4_28
    have D_va4_28 : Rd W31 (SA w S [b4_4, b2_2]) (valsD (List.map Mb.v L)) va4_28 := arrA_rd A4_28 (ls_skipA (ls_keep (ls_keep ls_nil))) (nin_cons nb_b4_4_ar27_28 (nin_cons nb_b2_2_ar27_28 nin_nil))
    obtain ⟨va4_28a, va4_28c, ev, D2⟩ := rdVs_out D_va4_28
    subst ev; replace D_va4_28 := D2; clear D2
    replace D_v := sa_less (M' := [b4_4, b2_2]) D_v (ls_skipA (ls_keep (ls_keep ls_nil)))
    replace D_va3_28 := sa_less (M' := [b4_4, b2_2]) D_va3_28 (ls_skipA (ls_keep (ls_keep ls_nil)))
    refine wp_exit (hK25 _ _ ?_)
    refine wp_seq_k fun K56 hK56 => ?_
    refine rg mixed y31 zz31 ?_
    refine .i (v := (.agg #[(.int .u8 (5)), (.int .i64 (0)), (.string (⟨#[]⟩)), (.slice va3_28a ((List.map Mb.nm L).length) va3_28c), (.slice va4_28a ((List.map Mb.v L).length) va4_28c)])) (loA (hbs rfl e4) own_b4_4 trivial agg33 sz33 rfl rfl) ?_
    refine .done ⟨by kernel_rfl, fun a57 g W57 y57 zz57 hk hg hV hR hP => ?_⟩
    obtain ⟨e101, -⟩ := hV
    replace e2 := (hR 2 rfl).trans e2
    replace D_v := D_v.ext hk
    replace D_va3_28 := D_va3_28.ext hk
    replace D_va4_28 := D_va4_28.ext hk
    replace e101 := e101.q
    replace own_b2_2 := own_b2_2.ext hk
    replace own_b4_4 := own_b4_4.ext hk
    replace kw := kw.x hk
    clear hR hk hg hP
    refine tail_store (b := b2_2) (o := 0) (v := (.agg #[(.int .u8 (5)), (.int .i64 (0)), (.string (⟨#[]⟩)), (.slice va3_28a ((List.map Mb.nm L).length) va3_28c), (.slice va4_28a ((List.map Mb.v L).length) va4_28c)])) e2 e101 sz33 rfl own_b2_2 (lbr rfl) (all_cons rfl (all_cons rfl (all_cons rfl (all_cons rfl (all_cons rfl all_nil))))) (fun W58 hs own_b2_2 => ?_)
    have own_b2_2 : Own W58 b2_2 [(.int .u8 (5)), (.int .i64 (0)), (.string (⟨#[]⟩)), (.slice va3_28a ((List.map Mb.nm L).length) va3_28c), (.slice va4_28a ((List.map Mb.v L).length) va4_28c)] 33 := own_b2_2
    replace own_b4_4 := own_store own_b4_4 hs ne_b2_2_b4_4.symm
    replace D_v := sa_store D_v hs (by simp)
    replace D_va3_28 := sa_store D_va3_28 hs (by simp)
    replace D_va4_28 := sa_store D_va4_28 hs (by simp)
    replace kw := keeps_store kw hs lo_b2_2
    clear hs
    refine tail_assign (v := (.int .i64 (0))) rfl (by rw [y57]; exact Nat.le_of_ble_eq_true rfl) (fun a59 y59 zz59 e3 hr => ?_)
    replace y59 := y59.trans y57; replace zz59 := zz59.trans zz57
    replace e2 := (hr 2 (by decide)).trans e2
    replace e101 := (hr 101 (by decide)).trans e101
    clear hr
    refine tail_nil (hK56 _ _ ?_)
    refine wp_ret ?_
    refine (show bodyPost Try.prog Try.f124 _ .ret _ _ from retCT (v := (.agg #[(.int .u8 (5)), (.int .i64 (0)), (.string (⟨#[]⟩)), (.slice va3_28a ((List.map Mb.nm L).length) va3_28c), (.slice va4_28a ((List.map Mb.v L).length) va4_28c)])) rfl zz59 e2 own_b2_2 agg33 sz33 rfl (fun h => by cases h) rfl e3 ⟨_, rfl, kw, ?_⟩)
    refine ⟨_, rfl, ?_⟩
    exact sa_ar (rdV_mk (lbr rfl) D_va3_28 D_va4_28 : Rd W58 (SA w S [b4_4, b2_2]) (V.d (V.mk (5) (0) (⟨#[]⟩) (List.map Mb.nm L) (List.map Mb.v L))) _)
end Go.Proofs.Ytnobijngkpflcaa
namespace Go.Proofs.Ytnobijngkpflcaa
open Go.Eng
set_option maxRecDepth 100000 in
theorem refHexV_ok (c : Nat) (hc8 : c < 256) (w : World) : Calls Try.prog 176 #[.int .u8 c] w (Ret w fun u _ => u = .int .i64 (hexR c)) := by
  refine enter Try.func176 rfl Try.ntmps176 (lbr rfl) fun a0 y0 zz0 harg => ?_
  have e0 : sl a0 0 = (.int .u8 ((c : Nat))) := harg 0 (lbr rfl)
  have kw := Keeps.refl All w
  clear harg
  refine wp_seq_k fun K1 hK1 => ?_
  refine rg mixed y0 zz0 ?_
  refine .i (sp_assign Has.cst) ?_
  refine .done ⟨by kernel_rfl, fun a2 g W2 y2 zz2 hk hg hV hR hP => ?_⟩
  obtain ⟨-, -⟩ := hV
  replace e0 := (hR 0 rfl).trans e0
  replace kw := kw.x hk
  clear hR hk hg hP
  refine tail_nil (hK1 _ _ ?_)
  refine wp_seq_k fun K3 hK3 => ?_
  refine wp_seq_k fun K4 hK4 => ?_
  refine rg mixed y2 zz2 ?_
  refine .i (sp_move (hbs rfl e0)) ?_
  refine .i (sp_geq (hlc rfl) Has.cst) ?_
  refine .i (sp_move (hlc rfl)) ?_
  refine .e (t := 5) rfl (hlc rfl) (fun hg => sp_move (hbs rfl e0)) ?_
  refine .e (t := 5) rfl (hlc rfl) (fun hg => sp_leq ((hlc rfl).undE hg) Has.cst) ?_
  refine .i (sp_and (hlc rfl) ((hlc rfl).weak fun hq => hq)) ?_
  refine .done ⟨by kernel_rfl, fun a5 g W5 y5 zz5 hk hg hV hR hP => ?_⟩
  obtain ⟨e8, -, -, -, -, -, -⟩ := hV
  replace e0 := (hR 0 rfl).trans e0
  replace e8 := e8.q
  replace kw := kw.x hk
  clear hR hk hg hP
  refine tail_nil (hK4 _ _ ?_)
  refine wp_cond_split e8 (fun hc => ?_) (fun hc => ?_)
  ·
   have hf : hexR c = c - 48 := by rw [hexR, if_pos]; simp at hc; omega
   refine wp_seq_k fun K6 hK6 => ?_
   refine rg mixed y5 zz5 ?_
   refine .i (sp_move (hbs rfl e0)) ?_
   refine .i (v := (.int .i64 ((c : Nat)))) (sp_conv Try.underlying5 Try.underlying3 (hlc rfl) (i64_in (by omega))) ?_
   refine .i (sp_sub (hlc rfl) Has.cst (i64_in (by omega))) ?_
   refine .i (sp_assign (hlc rfl)) ?_
   refine .done ⟨by kernel_rfl, fun a7 g W7 y7 zz7 hk hg hV hR hP => ?_⟩
   obtain ⟨e2, -, -, -, -⟩ := hV
   replace e2 := e2.q
   replace kw := kw.x hk
   clear hR hk hg hP
   refine tail_nil (hK6 _ _ ?_)
   refine wp_ret ?_
   refine (show bodyPost Try.prog Try.f176 _ .ret _ _ from ret1 rfl zz7 e2 ⟨_, rfl, kw, ?_⟩)
   rw [hf]
  ·
   have h1 : ¬ (48 ≤ c ∧ c ≤ 57) := by simp at hc; omega
   refine wp_skip (hK3 _ _ ?_)
   refine wp_seq_k fun K8 hK8 => ?_
   refine wp_seq_k fun K9 hK9 => ?_
   refine rg mixed y5 zz5 ?_
   refine .i (sp_move (hbs rfl e0)) ?_
   refine .i (sp_geq (hlc rfl) Has.cst) ?_
   refine .i (sp_move (hlc rfl)) ?_
   refine .e (t := 14) rfl (hlc rfl) (fun hg => sp_move (hbs rfl e0)) ?_
   refine .e (t := 14) rfl (hlc rfl) (fun hg => sp_leq ((hlc rfl).undE hg) Has.cst) ?_
   refine .i (sp_and (hlc rfl) ((hlc rfl).weak fun hq => hq)) ?_
   refine .done ⟨by kernel_rfl, fun a10 g W10 y10 zz10 hk hg hV hR hP => ?_⟩
   obtain ⟨e17, -, -, -, -, -, -⟩ := hV
   replace e0 := (hR 0 rfl).trans e0
   replace e17 := e17.q
   replace kw := kw.x hk
   clear hR hk hg hP
   refine tail_nil (hK9 _ _ ?_)
   refine wp_cond_split e17 (fun hc => ?_) (fun hc => ?_)
   ·
    have hf : hexR c = c - 97 + 10 := by rw [hexR, if_neg h1, if_pos]; simp at hc; omega
    refine wp_seq_k fun K11 hK11 => ?_
    refine rg mixed y10 zz10 ?_
    refine .i (sp_move (hbs rfl e0)) ?_
    refine .i (v := (.int .i64 ((c : Nat)))) (sp_conv Try.underlying5 Try.underlying3 (hlc rfl) (i64_in (by omega))) ?_
    refine .i (sp_sub (hlc rfl) Has.cst (i64_in (by omega))) ?_
    refine .i (sp_add (hlc rfl) Has.cst (i64_in (by omega))) ?_
    refine .i (sp_assign (hlc rfl)) ?_
    refine .done ⟨by kernel_rfl, fun a12 g W12 y12 zz12 hk hg hV hR hP => ?_⟩
    obtain ⟨e2, -, -, -, -, -⟩ := hV
    replace e2 := e2.q
    replace kw := kw.x hk
    clear hR hk hg hP
    refine tail_nil (hK11 _ _ ?_)
    refine wp_ret ?_
    refine (show bodyPost Try.prog Try.f176 _ .ret _ _ from ret1 rfl zz12 e2 ⟨_, rfl, kw, ?_⟩)
    rw [hf]
   ·
    have hf : hexR c = -1 := by rw [hexR, if_neg h1, if_neg]; simp at hc; omega
    refine wp_skip (hK8 _ _ ?_)
    refine wp_seq_k fun K13 hK13 => ?_
    refine rg mixed y10 zz10 ?_
    refine .i (sp_assign Has.cst) ?_
    refine .done ⟨by kernel_rfl, fun a14 g W14 y14 zz14 hk hg hV hR hP => ?_⟩
    obtain ⟨e2, -⟩ := hV
    have e2 : sl a14 2 = (.int .i64 (-1)) := e2
    replace kw := kw.x hk
    clear hR hk hg hP
    refine tail_nil (hK13 _ _ ?_)
    refine wp_ret ?_
    refine (show bodyPost Try.prog Try.f176 _ .ret _ _ from ret1 rfl zz14 e2 ⟨_, rfl, kw, ?_⟩)
    rw [hf]
set_option maxRecDepth 100000 in
theorem refHexIs_ok (s : ByteArray) (hm : s.size ≤ maxLen) (w : World) : Calls Try.prog 168 #[.string s] w (Ret w fun u _ => u = .bool (hexIs s)) := by
  have hmx := hm
  simp only [maxLen] at hmx
  refine enter Try.func168 rfl Try.ntmps168 (lbr rfl) fun a0 y0 zz0 harg => ?_
  have e0 : sl a0 0 = (.string (s)) := harg 0 (lbr rfl)
  have kw := Keeps.refl All w
  clear harg
  refine wp_seq_k fun K1 hK1 => ?_
  refine rg mixed y0 zz0 ?_
  refine .i (sp_assign Has.cst) ?_
  refine .done ⟨by kernel_rfl, fun a2 g W2 y2 zz2 hk hg hV hR hP => ?_⟩
  obtain ⟨-, -⟩ := hV
  replace e0 := (hR 0 rfl).trans e0
  replace kw := kw.x hk
  clear hR hk hg hP
  refine tail_nil (hK1 _ _ ?_)
  refine wp_seq_k fun K3 hK3 => ?_
  refine wp_seq_k fun K4 hK4 => ?_
  refine rg mixed y2 zz2 ?_
  refine .i (sp_assign Has.cst) ?_
  refine .done ⟨by kernel_rfl, fun a5 g W5 y5 zz5 hk hg hV hR hP => ?_⟩
  obtain ⟨e3, -⟩ := hV
  replace e0 := (hR 0 rfl).trans e0
  have e3 : sl a5 3 = (.int .i64 (0)) := e3
  replace kw := kw.x hk
  clear hR hk hg hP
  refine tail_nil (hK4 _ _ ?_)
  refine wp_block ?_
  refine wp_for (s.size) (fun k a W => a.tmps.size = 15 ∧ a.defers = [] ∧ Keeps All w W ∧ sl a 0 = (.string (s)) ∧ sl a 3 = (.int .i64 ((k : Nat))) ∧ (∀ i (h : i < s.size), i < k → hexB (s[i]'h).toNat = true)) ⟨y5, zz5, kw, e0, (e3.trans (congrArg (Value.int .i64) (rfl))), fun i h hi => absurd hi (by omega)⟩ ?_
  clear kw e0 e3
  rintro k a6 W6 hkk ⟨y6, zz6, kw, e0, e3, hinv⟩
  refine wp_seq_k fun K7 hK7 => ?_
  refine wp_seq_k fun K8 hK8 => ?_
  refine rg mixed y6 zz6 ?_
  refine .i (sp_move (hbs rfl e3)) ?_
  refine .i (sp_move (hbs rfl e0)) ?_
  refine .i (sp_lenS Try.underlying9 (hlc rfl)) ?_
  refine .i (sp_lss (hlc rfl) (hlc rfl)) ?_
  refine .done ⟨by kernel_rfl, fun a9 g W9 y9 zz9 hk hg hV hR hP => ?_⟩
  obtain ⟨e7, -, -, -, -⟩ := hV
  replace e0 := (hR 0 rfl).trans e0
  replace e3 := (hR 3 rfl).trans e3
  replace e7 := e7.q
  replace kw := kw.x hk
  clear hR hk hg hP
  refine tail_nil (hK8 _ _ ?_)
  refine wp_cond_split e7 (fun hc => ?_) (fun hc => ?_)
  ·
   have hlt : k < s.size := by simpa using hc
   refine wp_skip (hK7 _ _ ?_)
   refine wp_seq_k fun K10 hK10 => ?_
   refine wp_block ?_
   refine wp_seq_k fun K11 hK11 => ?_
   refine rg mixed y9 zz9 ?_
   refine .i (sp_move (hbs rfl e0)) ?_
   refine .i (sp_move (hbs rfl e3)) ?_
   refine .i (v := (.int .u8 (((s[k]'hlt).toNat : Nat)))) (sp_indexStr (i := k) Try.underlying9 (hlc rfl) (hlc rfl) rfl hlt) ?_
   refine .i (v := (.int .i64 (hexR ((s[k]'hlt).toNat : Nat)))) (sp_call1 (φ1 := Is (.int .u8 (((s[k]'hlt).toNat : Nat)))) ent176 (hlc rfl) (fun g u1 W hk hgk h1 => by have h1 : u1 = _ := h1; subst u1; exact refHexV_ok _ (UInt8.toNat_lt _) W)) ?_
   refine .i (sp_lss (hlc rfl) Has.cst) ?_
   refine .done ⟨by kernel_rfl, fun a12 g W12 y12 zz12 hk hg hV hR hP => ?_⟩
   obtain ⟨e14, -, -, -, -, -⟩ := hV
   replace e0 := (hR 0 rfl).trans e0
   replace e3 := (hR 3 rfl).trans e3
   replace e14 := e14.q
   replace kw := kw.x hk
   clear hR hk hg hP
   refine tail_nil (hK11 _ _ ?_)
   refine wp_cond_split e14 (fun hc => ?_) (fun hc => ?_)
   ·
    rw [hexR_lt] at hc
    have hfin : hexIs s = false := hexIs_false hlt (by simpa using hc)
    refine wp_seq_k fun K13 hK13 => ?_
    refine rg mixed y12 zz12 ?_
    refine .i (sp_assign Has.cst) ?_
    refine .done ⟨by kernel_rfl, fun a14 g W14 y14 zz14 hk hg hV hR hP => ?_⟩
    obtain ⟨e2, -⟩ := hV
    have e2 : sl a14 2 = (.bool (false)) := e2
    replace kw := kw.x hk
    clear hR hk hg hP
    refine tail_nil (hK13 _ _ ?_)
    refine wp_ret ?_
    refine (show bodyPost Try.prog Try.f168 _ .ret _ _ from ret1 rfl zz14 e2 ⟨_, rfl, kw, ?_⟩)
    rw [hfin]
   ·
    rw [hexR_lt] at hc
    have hk1 : hexB (s[k]'hlt).toNat = true := by simpa using hc
    refine wp_skip (hK10 _ _ ?_)
    refine rg mixed y12 zz12 ?_
    refine .i (sp_move (hbs rfl e3)) ?_
    refine .i (sp_add (hlc rfl) Has.cst (i64_in (by omega))) ?_
    refine .i (sp_assign (hlc rfl)) ?_
    refine .done ⟨by kernel_rfl, fun a15 g W15 y15 zz15 hk hg hV hR hP => ?_⟩
    obtain ⟨e3, -, -, -⟩ := hV
    replace e0 := (hR 0 rfl).trans e0
    replace e3 := e3.q
    replace kw := kw.x hk
    clear hR hk hg hP
    exact tail_nil ⟨hlt, y15, zz15, kw, e0, (e3.trans (congrArg (Value.int .i64) (by simp))), fun i h hi => by rcases Nat.lt_succ_iff_lt_or_eq.1 hi with h1 | h1; exact hinv i h h1; subst h1; exact hk1⟩
  ·
   have hge0 : ¬ k < s.size := by simpa using hc
   have hge : k = s.size := by omega
   have hfin : hexIs s = true := (hexIs_iff s).2 fun i h => hinv i h (by omega)
   refine wp_exit (hK3 _ _ ?_)
   refine wp_seq_k fun K16 hK16 => ?_
   refine rg mixed y9 zz9 ?_
   refine .i (sp_assign Has.cst) ?_
   refine .done ⟨by kernel_rfl, fun a17 g W17 y17 zz17 hk hg hV hR hP => ?_⟩
   obtain ⟨e2, -⟩ := hV
   have e2 : sl a17 2 = (.bool (true)) := e2
   replace kw := kw.x hk
   clear hR hk hg hP
   refine tail_nil (hK16 _ _ ?_)
   refine wp_ret ?_
   refine (show bodyPost Try.prog Try.f168 _ .ret _ _ from ret1 rfl zz17 e2 ⟨_, rfl, kw, ?_⟩)
   rw [hfin]
set_option maxRecDepth 100000 in
theorem refDig_ok (s : ByteArray) (hm : s.size ≤ maxLen) (w : World) : Calls Try.prog 149 #[.string s] w (Ret w fun u _ => u = .bool (digB s)) := by
  refine enter Try.func149 rfl Try.ntmps149 (lbr rfl) fun a0 y0 zz0 harg => ?_
  have e0 : sl a0 0 = (.string (s)) := harg 0 (lbr rfl)
  have kw := Keeps.refl All w
  clear harg
  refine wp_seq_k fun K1 hK1 => ?_
  refine rg mixed y0 zz0 ?_
  refine .i (sp_assign Has.cst) ?_
  refine .done ⟨by kernel_rfl, fun a2 g W2 y2 zz2 hk hg hV hR hP => ?_⟩
  obtain ⟨-, -⟩ := hV
  replace e0 := (hR 0 rfl).trans e0
  replace kw := kw.x hk
  clear hR hk hg hP
  refine tail_nil (hK1 _ _ ?_)
  refine wp_seq_k fun K3 hK3 => ?_
  refine rg mixed y2 zz2 ?_
  refine .i (sp_move (hbs rfl e0)) ?_
  refine .i (sp_lenS Try.underlying9 (hlc rfl)) ?_
  refine .i (sp_eql (hlc rfl) Has.cst) ?_
  refine .i (sp_move (hlc rfl)) ?_
  refine .e (t := 6) rfl (hlc rfl) (fun hg => sp_move (hbs rfl e0)) ?_
  refine .e (t := 6) (v := (.bool (hexIs s))) rfl (hlc rfl) (fun hg => sp_call1 (φ1 := Is (.string (s))) ent168 ((hlc rfl).undE hg) (fun g u1 W hk hgk h1 => by have h1 : u1 = _ := h1; subst u1; exact refHexIs_ok (s) hm W)) ?_
  refine .i (sp_and (hlc rfl) ((hlc rfl).weak fun hq => hq)) ?_
  refine .i (sp_assign (hlc rfl)) ?_
  refine .done ⟨by kernel_rfl, fun a4 g W4 y4 zz4 hk hg hV hR hP => ?_⟩
  obtain ⟨e2, -, -, -, -, -, -, -, -⟩ := hV
  replace e2 := e2.q
  replace kw := kw.x hk
  clear hR hk hg hP
  refine tail_nil (hK3 _ _ ?_)
  refine wp_ret ?_
  refine (show bodyPost Try.prog Try.f149 _ .ret _ _ from ret1 rfl zz4 e2 ⟨_, rfl, kw, ?_⟩)
  refine congrArg Value.bool ?_
  rw [digB, Bool.eq_iff_iff]
  simp
  omega
set_option maxRecDepth 100000 in
theorem refIds_ok (ns : List ByteArray) (w : World) (S : BSet) (v : Value) (hv : Rd w S (strsD ns) v) : Calls Try.prog 126 #[v] w (Ret w fun u _ => u = .int .i64 (refIds ns)) := by
  have hmn : ns.length ≤ maxLen := rd_lenS hv
  simp only [maxLen] at hmn
  obtain ⟨va, vc, ev, D_v⟩ := rdS_out (rd_arg hv)
  subst ev
  refine enter Try.func126 rfl Try.ntmps126 (lbr rfl) fun a0 y0 zz0 harg => ?_
  have e0 : sl a0 0 = (.slice va (ns.length) vc) := harg 0 (lbr rfl)
  have kw := Keeps.refl All w
  clear harg
  refine wp_seq_k fun K1 hK1 => ?_
  refine rg mixed y0 zz0 ?_
  refine .i (sp_assign Has.cst) ?_
  refine .done ⟨by kernel_rfl, fun a2 g W2 y2 zz2 hk hg hV hR hP => ?_⟩
  obtain ⟨-, -⟩ := hV
  replace e0 := (hR 0 rfl).trans e0
  replace D_v := D_v.ext hk
  replace kw := kw.x hk
  clear hR hk hg hP
  refine tail_nil (hK1 _ _ ?_)
  refine wp_seq_k fun K3 hK3 => ?_
  refine wp_seq_k fun K4 hK4 => ?_
  refine rg mixed y2 zz2 ?_
  refine .i (sp_move (hbs rfl e0)) ?_
  refine .i (sp_lenSs Try.underlying23 ((hlc rfl).dat D_v sub_all)) ?_
  refine .i (sp_eql (hlc rfl) Has.cst) ?_
  refine .done ⟨by kernel_rfl, fun a5 g W5 y5 zz5 hk hg hV hR hP => ?_⟩
  obtain ⟨e7, -, -, -⟩ := hV
  replace e0 := (hR 0 rfl).trans e0
  replace D_v := D_v.ext hk
  have e7 : sl a5 7 = (.bool ((ns.length : Int) == (0 : Int))) := e7
  replace kw := kw.x hk
  clear hR hk hg hP
  refine tail_nil (hK4 _ _ ?_)
  refine wp_cond_split e7 (fun hc => ?_) (fun hc => ?_)
  ·
   have hfin : refIds ns = 4 := by rw [refIds, if_pos]; simp at hc; simp [hc]
   refine wp_seq_k fun K6 hK6 => ?_
   refine rg mixed y5 zz5 ?_
   refine .i (sp_assign Has.cst) ?_
   refine .done ⟨by kernel_rfl, fun a7 g W7 y7 zz7 hk hg hV hR hP => ?_⟩
   obtain ⟨e2, -⟩ := hV
   replace D_v := D_v.ext hk
   have e2 : sl a7 2 = (.int .i64 (4)) := e2
   replace kw := kw.x hk
   clear hR hk hg hP
   refine tail_nil (hK6 _ _ ?_)
   refine wp_ret ?_
   refine (show bodyPost Try.prog Try.f126 _ .ret _ _ from ret1 rfl zz7 e2 ⟨_, rfl, kw, ?_⟩)
   rw [hfin]
  ·
   have hri : refIds ns = wrongE [] ns := by rw [refIds, if_neg]; simp at hc; simp [hc]
   refine wp_skip (hK3 _ _ ?_)
   refine wp_seq_k fun K8 hK8 => ?_
   refine wp_seq_k fun K9 hK9 => ?_
   refine rg mixed y5 zz5 ?_
   refine .i (sp_assign Has.cst) ?_
   refine .done ⟨by kernel_rfl, fun a10 g W10 y10 zz10 hk hg hV hR hP => ?_⟩
   obtain ⟨e3, -⟩ := hV
   replace e0 := (hR 0 rfl).trans e0
   replace D_v := D_v.ext hk
   have e3 : sl a10 3 = (.int .i64 (0)) := e3
   replace kw := kw.x hk
   clear hR hk hg hP
   refine tail_nil (hK9 _ _ ?_)
   refine wp_block ?_
   refine wp_for (ns.length) (fun k a W => a.tmps.size = 34 ∧ a.defers = [] ∧ Keeps All w W ∧ sl a 0 = (.slice va (ns.length) vc) ∧ sl a 3 = (.int .i64 ((k : Nat))) ∧ Rd W (SA w S []) (strsD (ns)) (.slice va (ns.length) vc) ∧ (wrongE [] ns = wrongE (ns.take k) (ns.drop k))) ⟨y10, zz10, kw, e0, (e3.trans (congrArg (Value.int .i64) (rfl))), D_v, rfl⟩ ?_
   clear kw e0 e3 D_v
   rintro k a11 W11 hkk ⟨y11, zz11, kw, e0, e3, D_v, hin⟩
   refine wp_seq_k fun K12 hK12 => ?_
   refine wp_seq_k fun K13 hK13 => ?_
   refine rg mixed y11 zz11 ?_
   refine .i (sp_move (hbs rfl e3)) ?_
   refine .i (sp_move (hbs rfl e0)) ?_
   refine .i (sp_lenSs Try.underlying23 ((hlc rfl).dat D_v sub_all)) ?_
   refine .i (sp_lss (hlc rfl) (hlc rfl)) ?_
   refine .done ⟨by kernel_rfl, fun a14 g W14 y14 zz14 hk hg hV hR hP => ?_⟩
   obtain ⟨e11, -, -, -, -⟩ := hV
   replace e0 := (hR 0 rfl).trans e0
   replace e3 := (hR 3 rfl).trans e3
   replace D_v := D_v.ext hk
   replace e11 := e11.q
   replace kw := kw.x hk
   clear hR hk hg hP
   refine tail_nil (hK13 _ _ ?_)
   refine wp_cond_split e11 (fun hc => ?_) (fun hc => ?_)
   ·
    have hlt : k < ns.length := by simpa using hc
    rw [List.drop_eq_getElem_cons hlt, wrongE] at hin
    refine wp_skip (hK12 _ _ ?_)
    refine wp_seq_k fun K15 hK15 => ?_
    refine wp_block ?_
    refine wp_seq_k fun K16 hK16 => ?_
    refine wp_seq_k fun K17 hK17 => ?_
    refine rg mixed y14 zz14 ?_
    refine .i (sp_move (hbs rfl e0)) ?_
    refine .i (sp_move (hbs rfl e3)) ?_
    refine .rf (sp_indexS (i := k) ((hlc rfl).dat D_v sub_all) (hlc rfl) Try.underlying23 sz9 rfl hlt) ?_
    refine .i (sp_loadStr (hlc rfl) agg9 sz9) ?_
    refine .i (v := (.bool (digB (ns[k]'hlt)))) (sp_call1 (φ1 := Is (.string (ns[k]'hlt))) ent149 (hlc rfl) (fun g u1 W hk hgk h1 => by have h1 : u1 = _ := h1; subst u1; exact refDig_ok (ns[k]'hlt) (rd_strAt D_v k hlt) W)) ?_
    refine .i (sp_not (hlc rfl)) ?_
    refine .done ⟨by kernel_rfl, fun a18 g W18 y18 zz18 hk hg hV hR hP => ?_⟩
    obtain ⟨e19, -, -, -, -, -, -⟩ := hV
    replace e0 := (hR 0 rfl).trans e0
    replace e3 := (hR 3 rfl).trans e3
    replace D_v := D_v.ext hk
    have e19 : sl a18 19 = (.bool (!(digB (ns[k]'hlt)))) := e19
    replace kw := kw.x hk
    clear hR hk hg hP
    refine tail_nil (hK17 _ _ ?_)
    refine wp_cond_split e19 (fun hc => ?_) (fun hc => ?_)
    ·
     have hd : digB ns[k] = false := by simpa using hc
     have hfin : refIds ns = 3 := by rw [hri, hin, if_pos hd]
     refine wp_seq_k fun K19 hK19 => ?_
     refine rg mixed y18 zz18 ?_
     refine .i (sp_assign Has.cst) ?_
     refine .done ⟨by kernel_rfl, fun a20 g W20 y20 zz20 hk hg hV hR hP => ?_⟩
     obtain ⟨e2, -⟩ := hV
     replace D_v := D_v.ext hk
     have e2 : sl a20 2 = (.int .i64 (3)) := e2
     replace kw := kw.x hk
     clear hR hk hg hP
     refine tail_nil (hK19 _ _ ?_)
     refine wp_ret ?_
     refine (show bodyPost Try.prog Try.f126 _ .ret _ _ from ret1 rfl zz20 e2 ⟨_, rfl, kw, ?_⟩)
     rw [hfin]
    ·
     have hd : ¬ digB ns[k] = false := by simpa using hc
     rw [if_neg hd] at hin
     refine wp_skip (hK16 _ _ ?_)
     refine wp_seq_k fun K21 hK21 => ?_
     refine rg mixed y18 zz18 ?_
     refine .i (sp_assign Has.cst) ?_
     refine .done ⟨by kernel_rfl, fun a22 g W22 y22 zz22 hk hg hV hR hP => ?_⟩
     obtain ⟨e4, -⟩ := hV
     replace e0 := (hR 0 rfl).trans e0
     replace e3 := (hR 3 rfl).trans e3
     replace D_v := D_v.ext hk
     have e4 : sl a22 4 = (.int .i64 (0)) := e4
     replace kw := kw.x hk
     clear hR hk hg hP
     refine tail_nil (hK21 _ _ ?_)
     refine wp_block ?_
     refine wp_for (k) (fun j a W => a.tmps.size = 34 ∧ a.defers = [] ∧ Keeps All w W ∧ sl a 0 = (.slice va (ns.length) vc) ∧ sl a 3 = (.int .i64 ((k : Nat))) ∧ sl a 4 = (.int .i64 ((j : Nat))) ∧ Rd W (SA w S []) (strsD (ns)) (.slice va (ns.length) vc) ∧ (∀ i (h : i < ns.length), i < j → ns[i]'h ≠ ns[k]'hlt)) ⟨y22, zz22, kw, e0, e3, (e4.trans (congrArg (Value.int .i64) (rfl))), D_v, fun i h hi => absurd hi (by omega)⟩ ?_
     clear kw e0 e3 e4 D_v
     rintro j a23 W23 hkj ⟨y23, zz23, kw, e0, e3, e4, D_v, hnn⟩
     refine wp_seq_k fun K24 hK24 => ?_
     refine wp_seq_k fun K25 hK25 => ?_
     refine rg mixed y23 zz23 ?_
     refine .i (sp_move (hbs rfl e4)) ?_
     refine .i (sp_move (hbs rfl e3)) ?_
     refine .i (sp_lss (hlc rfl) (hlc rfl)) ?_
     refine .done ⟨by kernel_rfl, fun a26 g W26 y26 zz26 hk hg hV hR hP => ?_⟩
     obtain ⟨e22, -, -, -⟩ := hV
     replace e0 := (hR 0 rfl).trans e0
     replace e3 := (hR 3 rfl).trans e3
     replace e4 := (hR 4 rfl).trans e4
     replace D_v := D_v.ext hk
     replace e22 := e22.q
     replace kw := kw.x hk
     clear hR hk hg hP
     refine tail_nil (hK25 _ _ ?_)
     refine wp_cond_split e22 (fun hc => ?_) (fun hc => ?_)
     ·
      have hltj0 : j < k := by simpa using hc
      have hltj : j < ns.length := by omega
      refine wp_skip (hK24 _ _ ?_)
      refine wp_seq_k fun K27 hK27 => ?_
      refine wp_block ?_
      refine wp_seq_k fun K28 hK28 => ?_
      refine rg mixed y26 zz26 ?_
      refine .i (sp_move (hbs rfl e0)) ?_
      refine .i (sp_move (hbs rfl e4)) ?_
      refine .rf (sp_indexS (i := j) ((hlc rfl).dat D_v sub_all) (hlc rfl) Try.underlying23 sz9 rfl hltj) ?_
      refine .i (sp_loadStr (hlc rfl) agg9 sz9) ?_
      refine .i (sp_move (hbs rfl e0)) ?_
      refine .i (sp_move (hbs rfl e3)) ?_
      refine .rf (sp_indexS (i := k) ((hlc rfl).dat D_v sub_all) (hlc rfl) Try.underlying23 sz9 rfl hlt) ?_
      refine .i (sp_loadStr (hlc rfl) agg9 sz9) ?_
      refine .i (sp_sEql (hlc rfl) (hlc rfl)) ?_
      refine .done ⟨by kernel_rfl, fun a29 g W29 y29 zz29 hk hg hV hR hP => ?_⟩
      obtain ⟨e33, -, -, -, -, -, -, -, -, -⟩ := hV
      replace e0 := (hR 0 rfl).trans e0
      replace e3 := (hR 3 rfl).trans e3
      replace e4 := (hR 4 rfl).trans e4
      replace D_v := D_v.ext hk
      replace e33 := e33.q
      replace kw := kw.x hk
      clear hR hk hg hP
      refine tail_nil (hK28 _ _ ?_)
      refine wp_cond_split e33 (fun hc => ?_) (fun hc => ?_)
      ·
       have hm : memB ns[k] (ns.take k) = true := (memB_iff _ _).2 (by have h : ns[j] = ns[k] := (by simpa using hc); rw [← h]; exact List.mem_take_iff_getElem.2 ⟨j, by omega, rfl⟩)
       have hfin : refIds ns = 7 := by rw [hri, hin, if_pos hm]
       refine wp_seq_k fun K30 hK30 => ?_
       refine rg mixed y29 zz29 ?_
       refine .i (sp_assign Has.cst) ?_
       refine .done ⟨by kernel_rfl, fun a31 g W31 y31 zz31 hk hg hV hR hP => ?_⟩
       obtain ⟨e2, -⟩ := hV
       replace D_v := D_v.ext hk
       have e2 : sl a31 2 = (.int .i64 (7)) := e2
       replace kw := kw.x hk
       clear hR hk hg hP
       refine tail_nil (hK30 _ _ ?_)
       refine wp_ret ?_
       refine (show bodyPost Try.prog Try.f126 _ .ret _ _ from ret1 rfl zz31 e2 ⟨_, rfl, kw, ?_⟩)
       rw [hfin]
      ·
       have hne : ns[j] ≠ ns[k] := by simpa using hc
       refine wp_skip (hK27 _ _ ?_)
       refine rg mixed y29 zz29 ?_
       refine .i (sp_move (hbs rfl e4)) ?_
       refine .i (sp_add (hlc rfl) Has.cst (i64_in (by omega))) ?_
       refine .i (sp_assign (hlc rfl)) ?_
       refine .done ⟨by kernel_rfl, fun a32 g W32 y32 zz32 hk hg hV hR hP => ?_⟩
       obtain ⟨e4, -, -, -⟩ := hV
       replace e0 := (hR 0 rfl).trans e0
       replace e3 := (hR 3 rfl).trans e3
       replace D_v := D_v.ext hk
       replace e4 := e4.q
       replace kw := kw.x hk
       clear hR hk hg hP
       exact tail_nil ⟨hltj0, y32, zz32, kw, e0, e3, (e4.trans (congrArg (Value.int .i64) (by simp))), D_v, fun i h hi => by rcases Nat.lt_succ_iff_lt_or_eq.1 hi with h1 | h1; exact hnn i h h1; subst h1; exact hne⟩
     ·
      have hjk : j = k := by have := of_decide_eq_false hc; omega
      have hm : memB ns[k] (ns.take k) = false := memB_false fun hmem => by obtain ⟨i, hi, he⟩ := List.getElem_of_mem hmem; have hik : i < k := (by simp at hi; omega); exact hnn i (by omega) (by omega) (by rw [← he]; simp)
      have hinn := hin
      rw [if_neg (by rw [hm]; simp)] at hinn
      refine wp_exit (hK15 _ _ ?_)
      refine rg mixed y26 zz26 ?_
      refine .i (sp_move (hbs rfl e3)) ?_
      refine .i (sp_add (hlc rfl) Has.cst (i64_in (by omega))) ?_
      refine .i (sp_assign (hlc rfl)) ?_
      refine .done ⟨by kernel_rfl, fun a33 g W33 y33 zz33 hk hg hV hR hP => ?_⟩
      obtain ⟨e3, -, -, -⟩ := hV
      replace e0 := (hR 0 rfl).trans e0
      replace D_v := D_v.ext hk
      replace e3 := e3.q
      replace kw := kw.x hk
      clear hR hk hg hP
      exact tail_nil ⟨hlt, y33, zz33, kw, e0, (e3.trans (congrArg (Value.int .i64) (by simp))), D_v, (by rw [List.take_succ_eq_append_getElem hlt]; exact hinn)⟩
   ·
    have hge0 : ¬ k < ns.length := by simpa using hc
    have hge : k = ns.length := by omega
    have hfin : refIds ns = 0 := by rw [hri, hin, hge, List.drop_length]; rfl
    refine wp_exit (hK8 _ _ ?_)
    refine wp_seq_k fun K34 hK34 => ?_
    refine rg mixed y14 zz14 ?_
    refine .i (sp_assign Has.cst) ?_
    refine .done ⟨by kernel_rfl, fun a35 g W35 y35 zz35 hk hg hV hR hP => ?_⟩
    obtain ⟨e2, -⟩ := hV
    replace D_v := D_v.ext hk
    have e2 : sl a35 2 = (.int .i64 (0)) := e2
    replace kw := kw.x hk
    clear hR hk hg hP
    refine tail_nil (hK34 _ _ ?_)
    refine wp_ret ?_
    refine (show bodyPost Try.prog Try.f126 _ .ret _ _ from ret1 rfl zz35 e2 ⟨_, rfl, kw, ?_⟩)
    rw [hfin]
set_option maxRecDepth 100000 in
theorem refMay_ok (au : Au) (w : World) (S : BSet) (v : Value) (hv : Rd w S au.d v) : Calls Try.prog 65 #[v] w (Ret w fun u _ => u = .bool (mayA au)) := by
  obtain ⟨p0_1a, p0_1c, ev, D_p0_1⟩ := rdAu_out (rd_arg hv)
  subst ev
  refine enter Try.func65 rfl Try.ntmps65 (lbr rfl) fun a0 y0 zz0 harg => ?_
  have e0 : sl a0 0 = (.agg #[(.int .i64 (au.th)), (.slice p0_1a (au.ids.length) p0_1c)]) := harg 0 (lbr rfl)
  have kw := Keeps.refl All w
  clear harg
  refine wp_seq_k fun K1 hK1 => ?_
  refine rg mixed y0 zz0 ?_
  refine .boxOp (v := (.agg #[(.int .i64 (au.th)), (.slice p0_1a (au.ids.length) p0_1c)])) (hbs rfl e0) ?_
  refine .i (sp_assign Has.cst) ?_
  refine .done ⟨by kernel_rfl, fun a2 g W2 y2 zz2 hk hg hV hR hP => ?_⟩
  obtain ⟨-, ⟨b1_2, e1, hb1, own_b1_2⟩, -⟩ := hV
  have lo_b1_2 : w.heap.size ≤ b1_2 := Nat.le_trans kw.size (hg.lo _ _ hb1)
  have own_b1_2 : Own W2 b1_2 [(.int .i64 (au.th)), (.slice p0_1a (au.ids.length) p0_1c)] 27 := own_b1_2
  replace D_p0_1 := sa_more D_p0_1 hk [b1_2] (in_cons (hg.lo _ _ hb1) in_nil)
  replace kw := kw.x hk
  clear hR hk hg hP hb1
  refine tail_nil (hK1 _ _ ?_)
  refine wp_seq_k fun K3 hK3 => ?_
  refine rg mixed y2 zz2 ?_
  refine .i (fo 1 (hbs rfl e1) Try.underlying27 rfl sz23 rfl) ?_
  refine .i (lo1 (hlc rfl) own_b1_2 trivial agg23 sz23 rfl) ?_
  refine .i (sp_lenSs Try.underlying23 ((hlc rfl).dat D_p0_1 sub_all)) ?_
  refine .i (sp_leq (hlc rfl) Has.cst) ?_
  refine .i (sp_move (hlc rfl)) ?_
  refine .e (t := 7) rfl (hlc rfl) (fun hg => fo 1 (hbs rfl e1) Try.underlying27 rfl sz23 rfl) ?_
  refine .e (t := 7) rfl (hlc rfl) (fun hg => lo1 ((hlc rfl).undE hg) own_b1_2 trivial agg23 sz23 rfl) ?_
  refine .e (t := 7) (v := (.int .i64 (refIds au.ids))) rfl (hlc rfl) (fun hg => sp_call1 (φ1 := IsD (SA w S [b1_2]) (strsD (au.ids))) ent126 (((hlc rfl).undE hg).dat D_p0_1 sub_all) (fun g u1 W hk hgk h1 => refIds_ok (au.ids) W _ _ h1)) ?_
  refine .e (t := 7) rfl (hlc rfl) (fun hg => sp_eql ((hlc rfl).undE hg) Has.cst) ?_
  refine .i (sp_and (hlc rfl) ((hlc rfl).weak fun hq => hq)) ?_
  refine .i (sp_move (hlc rfl)) ?_
  refine .e (t := 13) rfl (hlc rfl) (fun hg => fo 0 (hbs rfl e1) Try.underlying27 rfl sz3 rfl) ?_
  refine .e (t := 13) rfl (hlc rfl) (fun hg => lo1 ((hlc rfl).undE hg) own_b1_2 trivial agg3 sz3 rfl) ?_
  refine .e (t := 13) rfl (hlc rfl) (fun hg => sp_geq ((hlc rfl).undE hg) Has.cst) ?_
  refine .i (sp_and (hlc rfl) ((hlc rfl).weak fun hq => hq)) ?_
  refine .i (sp_move (hlc rfl)) ?_
  refine .e (t := 18) rfl (hlc rfl) (fun hg => fo 0 (hbs rfl e1) Try.underlying27 rfl sz3 rfl) ?_
  refine .e (t := 18) rfl (hlc rfl) (fun hg => lo1 ((hlc rfl).undE hg) own_b1_2 trivial agg3 sz3 rfl) ?_
  refine .e (t := 18) rfl (hlc rfl) (fun hg => fo 1 (hbs rfl e1) Try.underlying27 rfl sz23 rfl) ?_
  refine .e (t := 18) rfl (hlc rfl) (fun hg => lo1 ((hlc rfl).undE hg) own_b1_2 trivial agg23 sz23 rfl) ?_
  refine .e (t := 18) rfl (hlc rfl) (fun hg => sp_lenSs Try.underlying23 (((hlc rfl).undE hg).dat D_p0_1 sub_all)) ?_
  refine .e (t := 18) rfl (hlc rfl) (fun hg => sp_leq ((hlc rfl).undE hg) ((hlc rfl).undE hg)) ?_
  refine .i (sp_and (hlc rfl) ((hlc rfl).weak fun hq => hq)) ?_
  refine .i (sp_assign (hlc rfl)) ?_
  refine .done ⟨by kernel_rfl, fun a4 g W4 y4 zz4 hk hg hV hR hP => ?_⟩
  obtain ⟨e2, -, -, -, -, -, -, -, -, -, -, -, -, -, -, -, -, -, -, -, -, -, -, -, -⟩ := hV
  replace D_p0_1 := D_p0_1.ext hk
  replace e2 := e2.q
  replace own_b1_2 := own_b1_2.ext hk
  replace kw := kw.x hk
  clear hR hk hg hP
  refine tail_nil (hK3 _ _ ?_)
  refine wp_ret ?_
  refine (show bodyPost Try.prog Try.f65 _ .ret _ _ from ret1 rfl zz4 e2 ⟨_, rfl, kw, ?_⟩)
  exact congrArg Value.bool (refMay_eq au)
set_option maxRecDepth 100000 in
theorem refHas_ok (au : Au) (name : ByteArray) (w : World) (S : BSet) (v : Value) (hv : Rd w S au.d v) : Calls Try.prog 66 #[v, .string name] w (Ret w fun u _ => u = .bool (hasA au name)) := by
  obtain ⟨p0_1a, p0_1c, ev, D_p0_1⟩ := rdAu_out (rd_arg hv)
  subst ev
  refine enter Try.func66 rfl Try.ntmps66 (lbr rfl) fun a0 y0 zz0 harg => ?_
  have e0 : sl a0 0 = (.agg #[(.int .i64 (au.th)), (.slice p0_1a (au.ids.length) p0_1c)]) := harg 0 (lbr rfl)
  have e1 : sl a0 1 = (.string (name)) := harg 1 (lbr rfl)
  have kw := Keeps.refl All w
  clear harg
  refine wp_seq_k fun K1 hK1 => ?_
  refine rg mixed y0 zz0 ?_
  refine .boxOp (v := (.agg #[(.int .i64 (au.th)), (.slice p0_1a (au.ids.length) p0_1c)])) (hbs rfl e0) ?_
  refine .i (sp_assign Has.cst) ?_
  refine .done ⟨by kernel_rfl, fun a2 g W2 y2 zz2 hk hg hV hR hP => ?_⟩
  obtain ⟨-, ⟨b2_2, e2, hb2, own_b2_2⟩, -⟩ := hV
  have lo_b2_2 : w.heap.size ≤ b2_2 := Nat.le_trans kw.size (hg.lo _ _ hb2)
  have own_b2_2 : Own W2 b2_2 [(.int .i64 (au.th)), (.slice p0_1a (au.ids.length) p0_1c)] 27 := own_b2_2
  replace e1 := (hR 1 rfl).trans e1
  replace D_p0_1 := sa_more D_p0_1 hk [b2_2] (in_cons (hg.lo _ _ hb2) in_nil)
  replace kw := kw.x hk
  clear hR hk hg hP hb2
  refine tail_nil (hK1 _ _ ?_)
  refine wp_seq_k fun K3 hK3 => ?_
  refine wp_seq_k fun K4 hK4 => ?_
  refine rg mixed y2 zz2 ?_
  refine .i (sp_assign Has.cst) ?_
  refine .done ⟨by kernel_rfl, fun a5 g W5 y5 zz5 hk hg hV hR hP => ?_⟩
  obtain ⟨e5, -⟩ := hV
  replace e1 := (hR 1 rfl).trans e1
  replace e2 := (hR 2 rfl).trans e2
  replace D_p0_1 := D_p0_1.ext hk
  have e5 : sl a5 5 = (.int .i64 (0)) := e5
  replace own_b2_2 := own_b2_2.ext hk
  replace kw := kw.x hk
  clear hR hk hg hP
  refine tail_nil (hK4 _ _ ?_)
  refine wp_block ?_
  refine wp_for (au.ids.length) (fun k a W => a.tmps.size = 20 ∧ a.defers = [] ∧ Keeps All w W ∧ sl a 1 = (.string (name)) ∧ sl a 2 = (.pointer (some ⟨b2_2, 0, none⟩)) ∧ sl a 5 = (.int .i64 ((k : Nat))) ∧ Own W b2_2 [(.int .i64 (au.th)), (.slice p0_1a (au.ids.length) p0_1c)] 27 ∧ Rd W (SA w S [b2_2]) (strsD (au.ids)) (.slice p0_1a (au.ids.length) p0_1c) ∧ (∀ i (h : i < au.ids.length), i < k → au.ids[i]'h ≠ name)) ⟨y5, zz5, kw, e1, e2, (e5.trans (congrArg (Value.int .i64) (rfl))), own_b2_2, D_p0_1, fun i h hi => absurd hi (by omega)⟩ ?_
  clear kw e1 e2 e5 own_b2_2 D_p0_1
  rintro k a6 W6 hkk ⟨y6, zz6, kw, e1, e2, e5, own_b2_2, D_p0_1, hinv⟩
  refine wp_seq_k fun K7 hK7 => ?_
  refine wp_seq_k fun K8 hK8 => ?_
  refine rg mixed y6 zz6 ?_
  refine .i (sp_move (hbs rfl e5)) ?_
  refine .i (fo 1 (hbs rfl e2) Try.underlying27 rfl sz23 rfl) ?_
  refine .i (lo1 (hlc rfl) own_b2_2 trivial agg23 sz23 rfl) ?_
  refine .i (sp_lenSs Try.underlying23 ((hlc rfl).dat D_p0_1 sub_all)) ?_
  refine .i (sp_lss (hlc rfl) (hlc rfl)) ?_
  refine .done ⟨by kernel_rfl, fun a9 g W9 y9 zz9 hk hg hV hR hP => ?_⟩
  obtain ⟨e10, -, -, -, -, -⟩ := hV
  replace e1 := (hR 1 rfl).trans e1
  replace e2 := (hR 2 rfl).trans e2
  replace e5 := (hR 5 rfl).trans e5
  replace D_p0_1 := D_p0_1.ext hk
  replace e10 := e10.q
  replace own_b2_2 := own_b2_2.ext hk
  replace kw := kw.x hk
  clear hR hk hg hP
  refine tail_nil (hK8 _ _ ?_)
  refine wp_cond_split e10 (fun hc => ?_) (fun hc => ?_)
  ·
   have hlt : k < au.ids.length := by simpa using hc
   have hl1 := rd_lenS D_p0_1
   simp only [maxLen] at hl1
   refine wp_skip (hK7 _ _ ?_)
   refine wp_seq_k fun K10 hK10 => ?_
   refine wp_block ?_
   refine wp_seq_k fun K11 hK11 => ?_
   refine rg mixed y9 zz9 ?_
   refine .i (fo 1 (hbs rfl e2) Try.underlying27 rfl sz23 rfl) ?_
   refine .i (lo1 (hlc rfl) own_b2_2 trivial agg23 sz23 rfl) ?_
   refine .i (sp_move (hbs rfl e5)) ?_
   refine .rf (sp_indexS (i := k) ((hlc rfl).dat D_p0_1 sub_all) (hlc rfl) Try.underlying23 sz9 rfl hlt) ?_
   refine .i (sp_loadStr (hlc rfl) agg9 sz9) ?_
   refine .i (sp_move (hbs rfl e1)) ?_
   refine .i (sp_sEql (hlc rfl) (hlc rfl)) ?_
   refine .done ⟨by kernel_rfl, fun a12 g W12 y12 zz12 hk hg hV hR hP => ?_⟩
   obtain ⟨e19, -, -, -, -, -, -, -⟩ := hV
   replace e1 := (hR 1 rfl).trans e1
   replace e2 := (hR 2 rfl).trans e2
   replace e5 := (hR 5 rfl).trans e5
   replace D_p0_1 := D_p0_1.ext hk
   replace e19 := e19.q
   replace own_b2_2 := own_b2_2.ext hk
   replace kw := kw.x hk
   clear hR hk hg hP
   refine tail_nil (hK11 _ _ ?_)
   refine wp_cond_split e19 (fun hc => ?_) (fun hc => ?_)
   ·
    have hfin : hasA au name = true := (memB_iff _ _).2 (by have h : au.ids[k] = name := (by simpa using hc); rw [← h]; exact List.getElem_mem _)
    refine wp_seq_k fun K13 hK13 => ?_
    refine rg mixed y12 zz12 ?_
    refine .i (sp_assign Has.cst) ?_
    refine .done ⟨by kernel_rfl, fun a14 g W14 y14 zz14 hk hg hV hR hP => ?_⟩
    obtain ⟨e4, -⟩ := hV
    replace D_p0_1 := D_p0_1.ext hk
    have e4 : sl a14 4 = (.bool (true)) := e4
    replace own_b2_2 := own_b2_2.ext hk
    replace kw := kw.x hk
    clear hR hk hg hP
    refine tail_nil (hK13 _ _ ?_)
    refine wp_ret ?_
    refine (show bodyPost Try.prog Try.f66 _ .ret _ _ from ret1 rfl zz14 e4 ⟨_, rfl, kw, ?_⟩)
    rw [hfin]
   ·
    have hne : au.ids[k] ≠ name := by simpa using hc
    refine wp_skip (hK10 _ _ ?_)
    refine rg mixed y12 zz12 ?_
    refine .i (sp_move (hbs rfl e5)) ?_
    refine .i (sp_add (hlc rfl) Has.cst (i64_in (by omega))) ?_
    refine .i (sp_assign (hlc rfl)) ?_
    refine .done ⟨by kernel_rfl, fun a15 g W15 y15 zz15 hk hg hV hR hP => ?_⟩
    obtain ⟨e5, -, -, -⟩ := hV
    replace e1 := (hR 1 rfl).trans e1
    replace e2 := (hR 2 rfl).trans e2
    replace D_p0_1 := D_p0_1.ext hk
    replace e5 := e5.q
    replace own_b2_2 := own_b2_2.ext hk
    replace kw := kw.x hk
    clear hR hk hg hP
    exact tail_nil ⟨hlt, y15, zz15, kw, e1, e2, (e5.trans (congrArg (Value.int .i64) (by simp))), own_b2_2, D_p0_1, fun i h hi => by rcases Nat.lt_succ_iff_lt_or_eq.1 hi with h1 | h1; exact hinv i h h1; subst h1; exact hne⟩
  ·
   have hge0 : ¬ k < au.ids.length := by simpa using hc
   have hge : k = au.ids.length := by omega
   have hfin : hasA au name = false := memB_false fun hm => by obtain ⟨i, hi, he⟩ := List.getElem_of_mem hm; exact hinv i hi (by omega) he
   refine wp_exit (hK3 _ _ ?_)
   refine wp_seq_k fun K16 hK16 => ?_
   refine rg mixed y9 zz9 ?_
   refine .i (sp_assign Has.cst) ?_
   refine .done ⟨by kernel_rfl, fun a17 g W17 y17 zz17 hk hg hV hR hP => ?_⟩
   obtain ⟨e4, -⟩ := hV
   replace D_p0_1 := D_p0_1.ext hk
   have e4 : sl a17 4 = (.bool (false)) := e4
   replace own_b2_2 := own_b2_2.ext hk
   replace kw := kw.x hk
   clear hR hk hg hP
   refine tail_nil (hK16 _ _ ?_)
   refine wp_ret ?_
   refine (show bodyPost Try.prog Try.f66 _ .ret _ _ from ret1 rfl zz17 e4 ⟨_, rfl, kw, ?_⟩)
   rw [hfin]
set_option maxRecDepth 100000 in
theorem SameA_ok (au bu : Au) (w : World) (S : BSet) (v u : Value) (hv : Rd w S au.d v) (hu : Rd w S bu.d u) : Calls Try.prog 67 #[v, u] w (Ret w fun u _ => u = .bool (sameA au bu)) := by
  obtain ⟨p0_1a, p0_1c, ev, D_p0_1⟩ := rdAu_out (rd_arg hv)
  subst ev
  obtain ⟨p1_1a, p1_1c, ev, D_p1_1⟩ := rdAu_out (rd_arg hu)
  subst ev
  refine enter Try.func67 rfl Try.ntmps67 (lbr rfl) fun a0 y0 zz0 harg => ?_
  have e0 : sl a0 0 = (.agg #[(.int .i64 (au.th)), (.slice p0_1a (au.ids.length) p0_1c)]) := harg 0 (lbr rfl)
  have e1 : sl a0 1 = (.agg #[(.int .i64 (bu.th)), (.slice p1_1a (bu.ids.length) p1_1c)]) := harg 1 (lbr rfl)
  have kw := Keeps.refl All w
  clear harg
  refine wp_seq_k fun K1 hK1 => ?_
  refine rg mixed y0 zz0 ?_
  refine .boxOp (v := (.agg #[(.int .i64 (au.th)), (.slice p0_1a (au.ids.length) p0_1c)])) (hbs rfl e0) ?_
  refine .boxOp (v := (.agg #[(.int .i64 (bu.th)), (.slice p1_1a (bu.ids.length) p1_1c)])) (hbs rfl e1) ?_
  refine .i (sp_assign Has.cst) ?_
  refine .done ⟨by kernel_rfl, fun a2 g W2 y2 zz2 hk hg hV hR hP => ?_⟩
  obtain ⟨-, ⟨b3_2, e3, hb3, own_b3_2⟩, ⟨b2_2, e2, hb2, own_b2_2⟩, -⟩ := hV
  have lo_b3_2 : w.heap.size ≤ b3_2 := Nat.le_trans kw.size (hg.lo _ _ hb3)
  have own_b3_2 : Own W2 b3_2 [(.int .i64 (bu.th)), (.slice p1_1a (bu.ids.length) p1_1c)] 27 := own_b3_2
  have lo_b2_2 : w.heap.size ≤ b2_2 := Nat.le_trans kw.size (hg.lo _ _ hb2)
  have own_b2_2 : Own W2 b2_2 [(.int .i64 (au.th)), (.slice p0_1a (au.ids.length) p0_1c)] 27 := own_b2_2
  have ne_b3_2_b2_2 : b3_2 ≠ b2_2 := fun h => by have := hg.inj _ _ _ hb3 (h ▸ hb2); cases this
  replace D_p0_1 := sa_more D_p0_1 hk [b3_2, b2_2] (in_cons (hg.lo _ _ hb3) (in_cons (hg.lo _ _ hb2) in_nil))
  replace D_p1_1 := sa_more D_p1_1 hk [b3_2, b2_2] (in_cons (hg.lo _ _ hb3) (in_cons (hg.lo _ _ hb2) in_nil))
  replace kw := kw.x hk
  clear hR hk hg hP hb3 hb2
  refine tail_nil (hK1 _ _ ?_)
  refine wp_seq_k fun K3 hK3 => ?_
  refine rg mixed y2 zz2 ?_
  refine .i (fo 0 (hbs rfl e2) Try.underlying27 rfl sz3 rfl) ?_
  refine .i (lo1 (hlc rfl) own_b2_2 trivial agg3 sz3 rfl) ?_
  refine .i (fo 0 (hbs rfl e3) Try.underlying27 rfl sz3 rfl) ?_
  refine .i (lo1 (hlc rfl) own_b3_2 trivial agg3 sz3 rfl) ?_
  refine .i (sp_eql (hlc rfl) (hlc rfl)) ?_
  refine .i (sp_move (hlc rfl)) ?_
  refine .e (t := 10) rfl (hlc rfl) (fun hg => fo 1 (hbs rfl e2) Try.underlying27 rfl sz23 rfl) ?_
  refine .e (t := 10) rfl (hlc rfl) (fun hg => lo1 ((hlc rfl).undE hg) own_b2_2 trivial agg23 sz23 rfl) ?_
  refine .e (t := 10) rfl (hlc rfl) (fun hg => fo 1 (hbs rfl e3) Try.underlying27 rfl sz23 rfl) ?_
  refine .e (t := 10) rfl (hlc rfl) (fun hg => lo1 ((hlc rfl).undE hg) own_b3_2 trivial agg23 sz23 rfl) ?_
  refine .e (t := 10) (v := (.bool (decide (au.ids = bu.ids)))) rfl (hlc rfl) (fun hg => sp_call2 (φ1 := IsD (SA w S [b3_2, b2_2]) (strsD (au.ids))) (φ2 := IsD (SA w S [b3_2, b2_2]) (strsD (bu.ids))) ent127 (((hlc rfl).undE hg).dat D_p0_1 sub_all) (((hlc rfl).undE hg).dat D_p1_1 sub_all) (fun g u1 u2 W hk hgk h1 h2 => equal_ok (au.ids) (bu.ids) W _ _ _ h1 h2)) ?_
  refine .i (sp_and (hlc rfl) ((hlc rfl).weak fun hq => hq)) ?_
  refine .i (sp_assign (hlc rfl)) ?_
  refine .done ⟨by kernel_rfl, fun a4 g W4 y4 zz4 hk hg hV hR hP => ?_⟩
  obtain ⟨e4, -, -, -, -, -, -, -, -, -, -, -, -, -⟩ := hV
  replace D_p0_1 := D_p0_1.ext hk
  replace D_p1_1 := D_p1_1.ext hk
  replace e4 := e4.q
  replace own_b3_2 := own_b3_2.ext hk
  replace own_b2_2 := own_b2_2.ext hk
  replace kw := kw.x hk
  clear hR hk hg hP
  refine tail_nil (hK3 _ _ ?_)
  refine wp_ret ?_
  refine (show bodyPost Try.prog Try.f67 _ .ret _ _ from ret1 rfl zz4 e4 ⟨_, rfl, kw, ?_⟩)
  refine congrArg Value.bool ?_
  rw [sameA, Bool.eq_iff_iff]
  simp
set_option maxRecDepth 100000 in
theorem refMembers_ok (au : Au) (hn : au.ids.length ≤ 1073741824) (w : World) (S : BSet) (v : Value) (hv : Rd w S au.d v) : Calls Try.prog 63 #[v] w (Ret w fun u W => Rd W (Fr w) (mbsD (authL au)) u) := by
  obtain ⟨p0_1a, p0_1c, ev, D_p0_1⟩ := rdAu_out (rd_arg hv)
  subst ev
  refine enter Try.func63 rfl Try.ntmps63 (lbr rfl) fun a0 y0 zz0 harg => ?_
  have e0 : sl a0 0 = (.agg #[(.int .i64 (au.th)), (.slice p0_1a (au.ids.length) p0_1c)]) := harg 0 (lbr rfl)
  have kw := Keeps.refl All w
  clear harg
  refine wp_seq_k fun K1 hK1 => ?_
  refine rg mixed y0 zz0 ?_
  refine .boxOp (v := (.agg #[(.int .i64 (au.th)), (.slice p0_1a (au.ids.length) p0_1c)])) (hbs rfl e0) ?_
  refine .i (sp_assign Has.cst) ?_
  refine .done ⟨by kernel_rfl, fun a2 g W2 y2 zz2 hk hg hV hR hP => ?_⟩
  obtain ⟨-, ⟨b1_2, e1, hb1, own_b1_2⟩, -⟩ := hV
  have lo_b1_2 : w.heap.size ≤ b1_2 := Nat.le_trans kw.size (hg.lo _ _ hb1)
  have own_b1_2 : Own W2 b1_2 [(.int .i64 (au.th)), (.slice p0_1a (au.ids.length) p0_1c)] 27 := own_b1_2
  replace D_p0_1 := sa_more D_p0_1 hk [b1_2] (in_cons (hg.lo _ _ hb1) in_nil)
  replace kw := kw.x hk
  clear hR hk hg hP hb1
  refine tail_nil (hK1 _ _ ?_)
  refine wp_seq_k fun K3 hK3 => ?_
  refine rg mixed y2 zz2 ?_
  refine .i (fo 1 (hbs rfl e1) Try.underlying27 rfl sz23 rfl) ?_
  refine .i (lo1 (hlc rfl) own_b1_2 trivial agg23 sz23 rfl) ?_
  refine .da (X := Fr W2) (e := V.d (txtsV au.ids)) (sp_call1 (φ1 := IsD (SA w S [b1_2]) (strsD (au.ids))) ent19 ((hlc rfl).dat D_p0_1 sub_all) (fun g u1 W hk hgk h1 => (refTexts_ok (au.ids) hn W _ _ h1).mono (ret_fr hk hgk))) ?_
  refine .da (X := Fr W2) (e := Mb.d (Mb.mk (⟨#[107, 101, 121, 105, 100, 115]⟩) (txtsV au.ids))) (sp_buildD (zd := [D.str ⟨#[]⟩, V.d V.zero]) (es := [(0, D.str (⟨#[107, 101, 121, 105, 100, 115]⟩)), (1, V.d (txtsV au.ids))]) Try.underlying109 z109 (pl109 Try.underlying109) ⟨rfl, Has.cst.str (lbr rfl), ⟨rfl, (hlc rfl), trivial⟩⟩ zMb (by first | rfl | simp [plOf, width, width_V, hssD]) (by simp [fits, width, strsD, valsD, hssD, width_V]) rfl) ?_
  refine .i (fo 0 (hbs rfl e1) Try.underlying27 rfl sz3 rfl) ?_
  refine .i (lo1 (hlc rfl) own_b1_2 trivial agg3 sz3 rfl) ?_
  refine .i (v := (.agg #[(.int .u8 (2)), (.int .i64 (au.th)), (.string (⟨#[]⟩)), (.slice none 0 0), (.slice none 0 0)])) (sp_call1 (φ1 := Is (.int .i64 (au.th))) ent125 (hlc rfl) (fun g u1 W hk hgk h1 => by have h1 : u1 = _ := h1; subst u1; exact refNum_ok (au.th) W)) ?_
  refine .i (v := (.agg #[(.string (⟨#[116, 104, 114, 101, 115, 104, 111, 108, 100]⟩)), (.int .u8 (2)), (.int .i64 (au.th)), (.string (⟨#[]⟩)), (.slice none 0 0), (.slice none 0 0)])) (sp_build (vs := [(0, (.string (⟨#[116, 104, 114, 101, 115, 104, 111, 108, 100]⟩))), (1, (.agg #[(.int .u8 (2)), (.int .i64 (au.th)), (.string (⟨#[]⟩)), (.slice none 0 0), (.slice none 0 0)]))]) Try.underlying109 z109 (pl109 Try.underlying109) ⟨rfl, Has.cst, rfl, (hlc rfl), trivial⟩ (by kernel_rfl)) ?_
  refine .da (X := SF w [b1_2]) (e := mbsD ([Mb.mk (⟨#[107, 101, 121, 105, 100, 115]⟩) (txtsV au.ids), Mb.mk (⟨#[116, 104, 114, 101, 115, 104, 111, 108, 100]⟩) (V.mk (2) (au.th) (⟨#[]⟩) ([]) ([]))])) (sp_bsl (ds := [Mb.d (Mb.mk (⟨#[107, 101, 121, 105, 100, 115]⟩) (txtsV au.ids)), Mb.d (Mb.mk (⟨#[116, 104, 114, 101, 115, 104, 111, 108, 100]⟩) (V.mk (2) (au.th) (⟨#[]⟩) ([]) ([])))]) Try.underlying106 sz109 z109 (lbr rfl) (lbr rfl) ⟨rfl, ((hlc rfl).sup (fr_sf kw (in_cons own_b1_2.lt in_nil))), ⟨rfl, ((hlc rfl).dat (rdMb_mk (lbr rfl) (rdV_mk (by decide) (rd_nil _) (rd_nil _) : Rd W2 (SF w [b1_2]) (V.d (V.mk (2) (au.th) (⟨#[]⟩) ([]) ([]))) _) : Rd W2 (SF w [b1_2]) (Mb.d (Mb.mk (⟨#[116, 104, 114, 101, 115, 104, 111, 108, 100]⟩) (V.mk (2) (au.th) (⟨#[]⟩) ([]) ([])))) _) sub_all), trivial⟩⟩ rfl (by intro e he; simp at he; rcases he with rfl | rfl <;> exact width_Mb _) (fr_sf kw (in_cons own_b1_2.lt in_nil))) ?_
  refine .da (X := SF w [b1_2]) (e := mbsD ([Mb.mk (⟨#[107, 101, 121, 105, 100, 115]⟩) (txtsV au.ids), Mb.mk (⟨#[116, 104, 114, 101, 115, 104, 111, 108, 100]⟩) (V.mk (2) (au.th) (⟨#[]⟩) ([]) ([]))])) (sp_assign (hlc rfl)) ?_
  refine .done ⟨by kernel_rfl, fun a4 g W4 y4 zz4 hk hg hV hR hP => ?_⟩
  obtain ⟨e2, -, -, -, -, -, -, -, -, -, -⟩ := hV
  replace D_p0_1 := D_p0_1.ext hk
  obtain ⟨v2_4, ev⟩ : ∃ v, sl a4 2 = v := ⟨_, rfl⟩
  rw [ev] at e2
  have D_v2_4 : Rd W4 (SF w [b1_2]) (mbsD ([Mb.mk (⟨#[107, 101, 121, 105, 100, 115]⟩) (txtsV au.ids), Mb.mk (⟨#[116, 104, 114, 101, 115, 104, 111, 108, 100]⟩) (V.mk (2) (au.th) (⟨#[]⟩) ([]) ([]))])) v2_4 := sf_end e2 hk [] in_nil
  replace e2 := ev; clear ev
  obtain ⟨v2_4a, v2_4c, ev, D2⟩ := rdMbs_out D_v2_4
  subst ev; replace D_v2_4 := D2; clear D2
  replace own_b1_2 := own_b1_2.ext hk
  replace kw := kw.x hk
  clear hR hk hg hP
  refine tail_nil (hK3 _ _ ?_)
  refine wp_ret ?_
  refine (show bodyPost Try.prog Try.f63 _ .ret _ _ from ret1 rfl zz4 e2 ⟨_, rfl, kw, ?_⟩)
  exact sf_fr D_v2_4
set_option maxRecDepth 100000 in
theorem refValueA_ok (au : Au) (w : World) (S : BSet) (v : Value) (hv : Rd w S au.d v) : Calls Try.prog 62 #[v] w (Ret w fun r W => ∃ r1, r = .tuple #[r1, .int .i64 (valE au)] ∧ Rd W (Fr w) (V.d (valV au)) r1) := by
  obtain ⟨p0_1a, p0_1c, ev, D_p0_1⟩ := rdAu_out (rd_arg hv)
  subst ev
  refine enter Try.func62 rfl Try.ntmps62 (lbr rfl) fun a0 y0 zz0 harg => ?_
  have e0 : sl a0 0 = (.agg #[(.int .i64 (au.th)), (.slice p0_1a (au.ids.length) p0_1c)]) := harg 0 (lbr rfl)
  have kw := Keeps.refl All w
  clear harg
  refine wp_seq_k fun K1 hK1 => ?_
  refine rg mixed y0 zz0 ?_
  refine .boxOp (v := (.agg #[(.int .i64 (au.th)), (.slice p0_1a (au.ids.length) p0_1c)])) (hbs rfl e0) ?_
  refine .alloc z33 ?_
  refine .i (sp_assign Has.cst) ?_
  refine .done ⟨by kernel_rfl, fun a2 g W2 y2 zz2 hk hg hV hR hP => ?_⟩
  obtain ⟨-, ⟨b2_2, e2, hb2, own_b2_2⟩, ⟨b1_2, e1, hb1, own_b1_2⟩, -⟩ := hV
  have lo_b2_2 : w.heap.size ≤ b2_2 := Nat.le_trans kw.size (hg.lo _ _ hb2)
  have own_b2_2 : Own W2 b2_2 [(.int .u8 (0)), (.int .i64 (0)), (.string (⟨#[]⟩)), (.slice none 0 0), (.slice none 0 0)] 33 := own_b2_2
  have lo_b1_2 : w.heap.size ≤ b1_2 := Nat.le_trans kw.size (hg.lo _ _ hb1)
  have own_b1_2 : Own W2 b1_2 [(.int .i64 (au.th)), (.slice p0_1a (au.ids.length) p0_1c)] 27 := own_b1_2
  have ne_b2_2_b1_2 : b2_2 ≠ b1_2 := fun h => by have := hg.inj _ _ _ hb2 (h ▸ hb1); cases this
  replace D_p0_1 := sa_more D_p0_1 hk [b2_2, b1_2] (in_cons (hg.lo _ _ hb2) (in_cons (hg.lo _ _ hb1) in_nil))
  replace kw := kw.x hk
  clear hR hk hg hP hb2 hb1
  refine tail_nil (hK1 _ _ ?_)
  refine wp_seq_k fun K3 hK3 => ?_
  refine wp_seq_k fun K4 hK4 => ?_
  refine rg mixed y2 zz2 ?_
  refine .i (v := (.agg #[(.int .i64 (au.th)), (.slice p0_1a (au.ids.length) p0_1c)])) (loA (hbs rfl e1) own_b1_2 trivial agg27 sz27 rfl rfl) ?_
  refine .i (v := (.bool (mayA au))) (sp_call1 (φ1 := IsD (SA w S [b2_2, b1_2]) (Au.d (au))) ent65 ((hlc rfl).dat (rdAu_mk D_p0_1 : Rd W2 (SA w S [b2_2, b1_2]) (Au.d (au)) _) sub_all) (fun g u1 W hk hgk h1 => refMay_ok (au) W _ _ h1)) ?_
  refine .i (sp_not (hlc rfl)) ?_
  refine .done ⟨by kernel_rfl, fun a5 g W5 y5 zz5 hk hg hV hR hP => ?_⟩
  obtain ⟨e8, -, -, -⟩ := hV
  replace e2 := (hR 2 rfl).trans e2
  replace e1 := (hR 1 rfl).trans e1
  replace D_p0_1 := D_p0_1.ext hk
  have e8 : sl a5 8 = (.bool (!(mayA au))) := e8
  replace own_b2_2 := own_b2_2.ext hk
  replace own_b1_2 := own_b1_2.ext hk
  replace kw := kw.x hk
  clear hR hk hg hP
  refine tail_nil (hK4 _ _ ?_)
  refine wp_cond_split e8 (fun hc => ?_) (fun hc => ?_)
  ·
   have hm : mayA au = false := by simpa using hc
   have hoe : valE au = 3 := by rw [valE, hm]; rfl
   have hov : valV au = ⟨0, 0, ⟨#[]⟩, [], []⟩ := by rw [valV, hm]; rfl
   refine wp_seq_k fun K6 hK6 => ?_
   refine rg mixed y5 zz5 ?_
   refine .i (v := (.agg #[(.int .u8 (0)), (.int .i64 (0)), (.string (⟨#[]⟩)), (.slice none 0 0), (.slice none 0 0)])) (sp_build (vs := []) Try.underlying33 z33 (pl33 Try.underlying33) trivial rfl) ?_
   refine .done ⟨by kernel_rfl, fun a7 g W7 y7 zz7 hk hg hV hR hP => ?_⟩
   obtain ⟨e9, -⟩ := hV
   replace e2 := (hR 2 rfl).trans e2
   replace D_p0_1 := D_p0_1.ext hk
   replace e9 := e9.q
   replace own_b2_2 := own_b2_2.ext hk
   replace own_b1_2 := own_b1_2.ext hk
   replace kw := kw.x hk
   clear hR hk hg hP
   refine tail_store (b := b2_2) (o := 0) (v := (.agg #[(.int .u8 (0)), (.int .i64 (0)), (.string (⟨#[]⟩)), (.slice none 0 0), (.slice none 0 0)])) e2 e9 sz33 rfl own_b2_2 (lbr rfl) (all_cons rfl (all_cons rfl (all_cons rfl (all_cons rfl (all_cons rfl all_nil))))) (fun W8 hs own_b2_2 => ?_)
   have own_b2_2 : Own W8 b2_2 [(.int .u8 (0)), (.int .i64 (0)), (.string (⟨#[]⟩)), (.slice none 0 0), (.slice none 0 0)] 33 := own_b2_2
   replace own_b1_2 := own_store own_b1_2 hs ne_b2_2_b1_2.symm
   replace D_p0_1 := sa_store D_p0_1 hs (by simp)
   replace kw := keeps_store kw hs lo_b2_2
   clear hs
   refine tail_assign (v := (.int .i64 (3))) rfl (by rw [y7]; exact Nat.le_of_ble_eq_true rfl) (fun a9 y9 zz9 e3 hr => ?_)
   replace y9 := y9.trans y7; replace zz9 := zz9.trans zz7
   replace e2 := (hr 2 (by decide)).trans e2
   replace e9 := (hr 9 (by decide)).trans e9
   clear hr
   refine tail_nil (hK6 _ _ ?_)
   refine wp_ret ?_
   refine (show bodyPost Try.prog Try.f62 _ .ret _ _ from retCT (v := (.agg #[(.int .u8 (0)), (.int .i64 (0)), (.string (⟨#[]⟩)), (.slice none 0 0), (.slice none 0 0)])) rfl zz9 e2 own_b2_2 agg33 sz33 rfl (fun h => by cases h) rfl e3 ⟨_, rfl, kw, ?_⟩)
   refine ⟨_, congrArg (fun q => Value.tuple #[_, Value.int .i64 q]) hoe.symm, ?_⟩
   rw [hov]
   exact sf_fr (rdV_mk (lbr rfl) (rd_nil _) (rd_nil _) : Rd W8 (SF w [b2_2, b1_2]) (V.d (V.mk (0) (0) (⟨#[]⟩) ([]) ([]))) _)
  ·
   have hm : mayA au = true := by simpa using hc
   have hmo := mayA_out hm
   have hoe : valE au = 0 := by rw [valE, hm]; rfl
   have hov : valV au = V.mk 5 0 ⟨#[]⟩ (List.map Mb.nm (authL au)) (List.map Mb.v (authL au)) := by rw [valV, hm]; rfl
   refine wp_skip (hK3 _ _ ?_)
   refine wp_seq_k fun K10 hK10 => ?_
   refine rg mixed y5 zz5 ?_
   refine .i (v := (.agg #[(.int .i64 (au.th)), (.slice p0_1a (au.ids.length) p0_1c)])) (loA (hbs rfl e1) own_b1_2 trivial agg27 sz27 rfl rfl) ?_
   refine .da (X := Fr W5) (e := mbsD (authL au)) (sp_call1 (φ1 := IsD (SA w S [b2_2, b1_2]) (Au.d (au))) ent63 ((hlc rfl).dat (rdAu_mk D_p0_1 : Rd W5 (SA w S [b2_2, b1_2]) (Au.d (au)) _) sub_all) (fun g u1 W hk hgk h1 => (refMembers_ok (au) (by omega) W _ _ h1).mono (ret_fr hk hgk))) ?_
   refine .op (φ := IsT (IsD (Fr W5) (V.d (V.mk 5 0 ⟨#[]⟩ (List.map Mb.nm (authL au)) (List.map Mb.v (authL au))))) (Is (.int .i64 (0)))) (st_t (st_d sub_all) (st_is _)) (sp_call1 (φ1 := IsD (Fr W5) (mbsD (authL au))) ent124 (hlc rfl) (fun g u1 W hk hgk h1 => (refObj_ok (authL au) (authL_asc au) (by simp [authL]) W _ _ h1).mono (fun _ _ ⟨v, h1, h2, r1, h3, h4⟩ => ⟨v, h1, h2, r1, _, h3, rd_ar_fr hk hgk h4, rfl⟩))) ?_
   refine .op (φ := IsT (IsD (Fr W5) (V.d (V.mk 5 0 ⟨#[]⟩ (List.map Mb.nm (authL au)) (List.map Mb.v (authL au))))) (Is (.int .i64 (0)))) (st_t (st_d sub_all) (st_is _)) (sp_move (hlc rfl)) ?_
   refine .da (X := Fr W5) (e := V.d (V.mk 5 0 ⟨#[]⟩ (List.map Mb.nm (authL au)) (List.map Mb.v (authL au)))) (sp_ext2 (hlc rfl) rfl) ?_
   refine .i (v := (.int .i64 (0))) (sp_ext2' (hlc rfl) rfl) ?_
   refine .alloc z33 ?_
   refine .done ⟨by kernel_rfl, fun a11 g W11 y11 zz11 hk hg hV hR hP => ?_⟩
   obtain ⟨⟨b4_11, e4, hb4, own_b4_11⟩, e15, e14, -, -, -, -, -⟩ := hV
   have lo_b4_11 : w.heap.size ≤ b4_11 := Nat.le_trans kw.size (hg.lo _ _ hb4)
   have ne_b2_2_b4_11 : b2_2 ≠ b4_11 := Nat.ne_of_lt (Nat.lt_of_lt_of_le own_b2_2.lt (hg.lo _ _ hb4))
   have ne_b1_2_b4_11 : b1_2 ≠ b4_11 := Nat.ne_of_lt (Nat.lt_of_lt_of_le own_b1_2.lt (hg.lo _ _ hb4))
   have own_b4_11 : Own W11 b4_11 [(.int .u8 (0)), (.int .i64 (0)), (.string (⟨#[]⟩)), (.slice none 0 0), (.slice none 0 0)] 33 := own_b4_11
   replace e2 := (hR 2 rfl).trans e2
   replace D_p0_1 := sa_more D_p0_1 hk [b4_11] (in_cons (hg.lo _ _ hb4) in_nil)
   obtain ⟨v14_11, ev⟩ : ∃ v, sl a11 14 = v := ⟨_, rfl⟩
   rw [ev] at e14
   have D_v14_11 : Rd W11 (SF w [b4_11, b2_2, b1_2]) (V.d (V.mk 5 0 ⟨#[]⟩ (List.map Mb.nm (authL au)) (List.map Mb.v (authL au)))) v14_11 := fr_end (M := [b2_2, b1_2]) e14 kw [b4_11] (in_cons ⟨_, hb4⟩ in_nil) (in_cons own_b2_2.lt (in_cons own_b1_2.lt in_nil))
   replace e14 := ev; clear ev
   obtain ⟨cn14_11a, cn14_11c, ci14_11a, ci14_11c, ev, ht_v14_11, D_cn14_11, D_ci14_11⟩ := rdV_out D_v14_11
   subst ev; clear D_v14_11
   have e15 : sl a11 15 = (.int .i64 (0)) := e15
   replace own_b2_2 := own_b2_2.ext hk
   replace own_b1_2 := own_b1_2.ext hk
   replace kw := kw.x hk
   clear hR hk hg hP hb4
   refine tail_store (b := b4_11) (o := 0) (v := (.agg #[(.int .u8 ((V.mk 5 0 ⟨#[]⟩ (List.map Mb.nm (authL au)) (List.map Mb.v (authL au))).k)), (.int .i64 ((V.mk 5 0 ⟨#[]⟩ (List.map Mb.nm (authL au)) (List.map Mb.v (authL au))).n)), (.string ((V.mk 5 0 ⟨#[]⟩ (List.map Mb.nm (authL au)) (List.map Mb.v (authL au))).t)), (.slice cn14_11a (((V.mk 5 0 ⟨#[]⟩ (List.map Mb.nm (authL au)) (List.map Mb.v (authL au))).ns).length) cn14_11c), (.slice ci14_11a (((V.mk 5 0 ⟨#[]⟩ (List.map Mb.nm (authL au)) (List.map Mb.v (authL au))).xs).length) ci14_11c)])) e4 e14 sz33 rfl own_b4_11 (lbr rfl) (all_cons rfl (all_cons rfl (all_cons rfl (all_cons rfl (all_cons rfl all_nil))))) (fun W12 hs own_b4_11 => ?_)
   have own_b4_11 : Own W12 b4_11 [(.int .u8 ((V.mk 5 0 ⟨#[]⟩ (List.map Mb.nm (authL au)) (List.map Mb.v (authL au))).k)), (.int .i64 ((V.mk 5 0 ⟨#[]⟩ (List.map Mb.nm (authL au)) (List.map Mb.v (authL au))).n)), (.string ((V.mk 5 0 ⟨#[]⟩ (List.map Mb.nm (authL au)) (List.map Mb.v (authL au))).t)), (.slice cn14_11a (((V.mk 5 0 ⟨#[]⟩ (List.map Mb.nm (authL au)) (List.map Mb.v (authL au))).ns).length) cn14_11c), (.slice ci14_11a (((V.mk 5 0 ⟨#[]⟩ (List.map Mb.nm (authL au)) (List.map Mb.v (authL au))).xs).length) ci14_11c)] 33 := own_b4_11
   replace own_b2_2 := own_store own_b2_2 hs ne_b2_2_b4_11
   replace own_b1_2 := own_store own_b1_2 hs ne_b1_2_b4_11
   replace D_p0_1 := sa_store D_p0_1 hs (by simp)
   replace D_cn14_11 := sf_store D_cn14_11 hs (by simp)
   replace D_ci14_11 := sf_store D_ci14_11 hs (by simp)
   replace kw := keeps_store kw hs lo_b4_11
   clear hs
   refine tail_assign (v := (.int .i64 (0))) e15 (by rw [y11]; exact Nat.le_of_ble_eq_true rfl) (fun a13 y13 zz13 e5 hr => ?_)
   replace y13 := y13.trans y11; replace zz13 := zz13.trans zz11
   replace e2 := (hr 2 (by decide)).trans e2
   replace e4 := (hr 4 (by decide)).trans e4
   replace e14 := (hr 14 (by decide)).trans e14
   replace e15 := (hr 15 (by decide)).trans e15
   clear hr
   refine tail_nil (hK10 _ _ ?_)
   refine wp_seq_k fun K14 hK14 => ?_
   refine rg mixed y13 zz13 ?_
   refine .i (v := (.agg #[(.int .u8 ((V.mk 5 0 ⟨#[]⟩ (List.map Mb.nm (authL au)) (List.map Mb.v (authL au))).k)), (.int .i64 ((V.mk 5 0 ⟨#[]⟩ (List.map Mb.nm (authL au)) (List.map Mb.v (authL au))).n)), (.string ((V.mk 5 0 ⟨#[]⟩ (List.map Mb.nm (authL au)) (List.map Mb.v (authL au))).t)), (.slice cn14_11a (((V.mk 5 0 ⟨#[]⟩ (List.map Mb.nm (authL au)) (List.map Mb.v (authL au))).ns).length) cn14_11c), (.slice ci14_11a (((V.mk 5 0 ⟨#[]⟩ (List.map Mb.nm (authL au)) (List.map Mb.v (authL au))).xs).length) ci14_11c)])) (loA (hbs rfl e4) own_b4_11 trivial agg33 sz33 rfl rfl) ?_
   refine .done ⟨by kernel_rfl, fun a15 g W15 y15 zz15 hk hg hV hR hP => ?_⟩
   obtain ⟨e16, -⟩ := hV
   replace e2 := (hR 2 rfl).trans e2
   replace D_cn14_11 := D_cn14_11.ext hk
   replace D_ci14_11 := D_ci14_11.ext hk
   replace e16 := e16.q
   replace own_b2_2 := own_b2_2.ext hk
   replace own_b1_2 := own_b1_2.ext hk
   replace own_b4_11 := own_b4_11.ext hk
   replace kw := kw.x hk
   clear hR hk hg hP
   refine tail_store (b := b2_2) (o := 0) (v := (.agg #[(.int .u8 ((V.mk 5 0 ⟨#[]⟩ (List.map Mb.nm (authL au)) (List.map Mb.v (authL au))).k)), (.int .i64 ((V.mk 5 0 ⟨#[]⟩ (List.map Mb.nm (authL au)) (List.map Mb.v (authL au))).n)), (.string ((V.mk 5 0 ⟨#[]⟩ (List.map Mb.nm (authL au)) (List.map Mb.v (authL au))).t)), (.slice cn14_11a (((V.mk 5 0 ⟨#[]⟩ (List.map Mb.nm (authL au)) (List.map Mb.v (authL au))).ns).length) cn14_11c), (.slice ci14_11a (((V.mk 5 0 ⟨#[]⟩ (List.map Mb.nm (authL au)) (List.map Mb.v (authL au))).xs).length) ci14_11c)])) e2 e16 sz33 rfl own_b2_2 (lbr rfl) (all_cons rfl (all_cons rfl (all_cons rfl (all_cons rfl (all_cons rfl all_nil))))) (fun W16 hs own_b2_2 => ?_)
   have own_b2_2 : Own W16 b2_2 [(.int .u8 ((V.mk 5 0 ⟨#[]⟩ (List.map Mb.nm (authL au)) (List.map Mb.v (authL au))).k)), (.int .i64 ((V.mk 5 0 ⟨#[]⟩ (List.map Mb.nm (authL au)) (List.map Mb.v (authL au))).n)), (.string ((V.mk 5 0 ⟨#[]⟩ (List.map Mb.nm (authL au)) (List.map Mb.v (authL au))).t)), (.slice cn14_11a (((V.mk 5 0 ⟨#[]⟩ (List.map Mb.nm (authL au)) (List.map Mb.v (authL au))).ns).length) cn14_11c), (.slice ci14_11a (((V.mk 5 0 ⟨#[]⟩ (List.map Mb.nm (authL au)) (List.map Mb.v (authL au))).xs).length) ci14_11c)] 33 := own_b2_2
   replace own_b1_2 := own_store own_b1_2 hs ne_b2_2_b1_2.symm
   replace own_b4_11 := own_store own_b4_11 hs ne_b2_2_b4_11.symm
   replace D_cn14_11 := sf_store D_cn14_11 hs (by simp)
   replace D_ci14_11 := sf_store D_ci14_11 hs (by simp)
   replace kw := keeps_store kw hs lo_b2_2
   clear hs
   refine tail_assign (v := (.int .i64 (0))) rfl (by rw [y15]; exact Nat.le_of_ble_eq_true rfl) (fun a17 y17 zz17 e3 hr => ?_)
   replace y17 := y17.trans y15; replace zz17 := zz17.trans zz15
   replace e2 := (hr 2 (by decide)).trans e2
   replace e16 := (hr 16 (by decide)).trans e16
   clear hr
   refine tail_nil (hK14 _ _ ?_)
   refine wp_ret ?_
   refine (show bodyPost Try.prog Try.f62 _ .ret _ _ from retCT (v := (.agg #[(.int .u8 ((V.mk 5 0 ⟨#[]⟩ (List.map Mb.nm (authL au)) (List.map Mb.v (authL au))).k)), (.int .i64 ((V.mk 5 0 ⟨#[]⟩ (List.map Mb.nm (authL au)) (List.map Mb.v (authL au))).n)), (.string ((V.mk 5 0 ⟨#[]⟩ (List.map Mb.nm (authL au)) (List.map Mb.v (authL au))).t)), (.slice cn14_11a (((V.mk 5 0 ⟨#[]⟩ (List.map Mb.nm (authL au)) (List.map Mb.v (authL au))).ns).length) cn14_11c), (.slice ci14_11a (((V.mk 5 0 ⟨#[]⟩ (List.map Mb.nm (authL au)) (List.map Mb.v (authL au))).xs).length) ci14_11c)])) rfl zz17 e2 own_b2_2 agg33 sz33 rfl (fun h => by cases h) rfl e3 ⟨_, rfl, kw, ?_⟩)
   refine ⟨_, congrArg (fun q => Value.tuple #[_, Value.int .i64 q]) hoe.symm, ?_⟩
   rw [hov]
   exact sf_fr (rdV_in (x := (V.mk 5 0 ⟨#[]⟩ (List.map Mb.nm (authL au)) (List.map Mb.v (authL au)))) ht_v14_11 D_cn14_11 D_ci14_11 : Rd W16 (SF w [b4_11, b2_2, b1_2]) (V.d ((V.mk 5 0 ⟨#[]⟩ (List.map Mb.nm (authL au)) (List.map Mb.v (authL au))))) _)
set_option maxRecDepth 100000 in
theorem member_ok (m n : Mb) (w : World) (S : BSet) (v u : Value) (hv : Rd w S m.d v) (hu : Rd w S n.d u) (hcn : m.v.cnt ≤ 1073741824) : Calls Try.prog 64 #[v, u] w (Ret w fun u _ => u = .bool (decide (m.nm = n.nm) && V.beq m.v n.v)) := by
  obtain ⟨p0_4a, p0_4c, p0_5a, p0_5c, ev, hb_p0_0, hb_p0_3, D_p0_4, D_p0_5⟩ := rdMb_out (rd_arg hv)
  subst ev
  obtain ⟨p1_4a, p1_4c, p1_5a, p1_5c, ev, hb_p1_0, hb_p1_3, D_p1_4, D_p1_5⟩ := rdMb_out (rd_arg hu)
  subst ev
  refine enter Try.func64 rfl Try.ntmps64 (lbr rfl) fun a0 y0 zz0 harg => ?_
  have e0 : sl a0 0 = (.agg #[(.string (m.nm)), (.int .u8 (m.v.k)), (.int .i64 (m.v.n)), (.string (m.v.t)), (.slice p0_4a (m.v.ns.length) p0_4c), (.slice p0_5a (m.v.xs.length) p0_5c)]) := harg 0 (lbr rfl)
  have e1 : sl a0 1 = (.agg #[(.string (n.nm)), (.int .u8 (n.v.k)), (.int .i64 (n.v.n)), (.string (n.v.t)), (.slice p1_4a (n.v.ns.length) p1_4c), (.slice p1_5a (n.v.xs.length) p1_5c)]) := harg 1 (lbr rfl)
  have kw := Keeps.refl All w
  clear harg
  refine wp_seq_k fun K1 hK1 => ?_
  refine rg mixed y0 zz0 ?_
  refine .boxOp (v := (.agg #[(.string (m.nm)), (.int .u8 (m.v.k)), (.int .i64 (m.v.n)), (.string (m.v.t)), (.slice p0_4a (m.v.ns.length) p0_4c), (.slice p0_5a (m.v.xs.length) p0_5c)])) (hbs rfl e0) ?_
  refine .boxOp (v := (.agg #[(.string (n.nm)), (.int .u8 (n.v.k)), (.int .i64 (n.v.n)), (.string (n.v.t)), (.slice p1_4a (n.v.ns.length) p1_4c), (.slice p1_5a (n.v.xs.length) p1_5c)])) (hbs rfl e1) ?_
  refine .i (sp_assign Has.cst) ?_
  refine .done ⟨by kernel_rfl, fun a2 g W2 y2 zz2 hk hg hV hR hP => ?_⟩
  obtain ⟨-, ⟨b3_2, e3, hb3, own_b3_2⟩, ⟨b2_2, e2, hb2, own_b2_2⟩, -⟩ := hV
  have lo_b3_2 : w.heap.size ≤ b3_2 := Nat.le_trans kw.size (hg.lo _ _ hb3)
  have own_b3_2 : Own W2 b3_2 [(.string (n.nm)), (.int .u8 (n.v.k)), (.int .i64 (n.v.n)), (.string (n.v.t)), (.slice p1_4a (n.v.ns.length) p1_4c), (.slice p1_5a (n.v.xs.length) p1_5c)] 109 := own_b3_2
  have lo_b2_2 : w.heap.size ≤ b2_2 := Nat.le_trans kw.size (hg.lo _ _ hb2)
  have own_b2_2 : Own W2 b2_2 [(.string (m.nm)), (.int .u8 (m.v.k)), (.int .i64 (m.v.n)), (.string (m.v.t)), (.slice p0_4a (m.v.ns.length) p0_4c), (.slice p0_5a (m.v.xs.length) p0_5c)] 67 := own_b2_2
  have ne_b3_2_b2_2 : b3_2 ≠ b2_2 := fun h => by have := hg.inj _ _ _ hb3 (h ▸ hb2); cases this
  replace D_p0_4 := sa_more D_p0_4 hk [b3_2, b2_2] (in_cons (hg.lo _ _ hb3) (in_cons (hg.lo _ _ hb2) in_nil))
  replace D_p0_5 := sa_more D_p0_5 hk [b3_2, b2_2] (in_cons (hg.lo _ _ hb3) (in_cons (hg.lo _ _ hb2) in_nil))
  replace D_p1_4 := sa_more D_p1_4 hk [b3_2, b2_2] (in_cons (hg.lo _ _ hb3) (in_cons (hg.lo _ _ hb2) in_nil))
  replace D_p1_5 := sa_more D_p1_5 hk [b3_2, b2_2] (in_cons (hg.lo _ _ hb3) (in_cons (hg.lo _ _ hb2) in_nil))
  replace kw := kw.x hk
  clear hR hk hg hP hb3 hb2
  refine tail_nil (hK1 _ _ ?_)
  refine wp_seq_k fun K3 hK3 => ?_
  refine rg mixed y2 zz2 ?_
  refine .i (fo 0 (hbs rfl e2) Try.underlying67 rfl sz9 rfl) ?_
  refine .i (lo1 (hlc rfl) own_b2_2 trivial agg9 sz9 rfl) ?_
  refine .i (fo 0 (hbs rfl e3) Try.underlying109 rfl sz9 rfl) ?_
  refine .i (lo1 (hlc rfl) own_b3_2 trivial agg9 sz9 rfl) ?_
  refine .i (sp_sEql (hlc rfl) (hlc rfl)) ?_
  refine .i (sp_move (hlc rfl)) ?_
  refine .e (t := 10) rfl (hlc rfl) (fun hg => fo 1 (hbs rfl e2) Try.underlying67 rfl sz33 rfl) ?_
  refine .e (t := 10) (v := (.agg #[(.int .u8 (m.v.k)), (.int .i64 (m.v.n)), (.string (m.v.t)), (.slice p0_4a (m.v.ns.length) p0_4c), (.slice p0_5a (m.v.xs.length) p0_5c)])) rfl (hlc rfl) (fun hg => loA ((hlc rfl).undE hg) own_b2_2 trivial agg33 sz33 rfl rfl) ?_
  refine .e (t := 10) rfl (hlc rfl) (fun hg => fo 1 (hbs rfl e3) Try.underlying109 rfl sz33 rfl) ?_
  refine .e (t := 10) (v := (.agg #[(.int .u8 (n.v.k)), (.int .i64 (n.v.n)), (.string (n.v.t)), (.slice p1_4a (n.v.ns.length) p1_4c), (.slice p1_5a (n.v.xs.length) p1_5c)])) rfl (hlc rfl) (fun hg => loA ((hlc rfl).undE hg) own_b3_2 trivial agg33 sz33 rfl rfl) ?_
  refine .e (t := 10) (v := (.bool (V.beq (m.v) (n.v)))) rfl (hlc rfl) (fun hg => sp_call2 (φ1 := IsD (SA w S [b3_2, b2_2]) (V.d (m.v))) (φ2 := IsD (SA w S [b3_2, b2_2]) (V.d (n.v))) ent34 (((hlc rfl).undE hg).dat (rdV_in (x := m.v) hb_p0_3 D_p0_4 D_p0_5 : Rd W2 (SA w S [b3_2, b2_2]) (V.d (m.v)) _) sub_all) (((hlc rfl).undE hg).dat (rdV_in (x := n.v) hb_p1_3 D_p1_4 D_p1_5 : Rd W2 (SA w S [b3_2, b2_2]) (V.d (n.v)) _) sub_all) (fun g u1 u2 W hk hgk h1 h2 => refSame_all _ (m.v) (n.v) (Nat.le_refl _) (by first | omega | exact Nat.le_of_ble_eq_true (by kernel_rfl)) W _ _ _ h1 h2)) ?_
  refine .i (sp_and (hlc rfl) ((hlc rfl).weak fun hq => hq)) ?_
  refine .i (sp_assign (hlc rfl)) ?_
  refine .done ⟨by kernel_rfl, fun a4 g W4 y4 zz4 hk hg hV hR hP => ?_⟩
  obtain ⟨e4, -, -, -, -, -, -, -, -, -, -, -, -, -⟩ := hV
  replace D_p0_4 := D_p0_4.ext hk
  replace D_p0_5 := D_p0_5.ext hk
  replace D_p1_4 := D_p1_4.ext hk
  replace D_p1_5 := D_p1_5.ext hk
  replace e4 := e4.q
  replace own_b3_2 := own_b3_2.ext hk
  replace own_b2_2 := own_b2_2.ext hk
  replace kw := kw.x hk
  clear hR hk hg hP
  refine tail_nil (hK3 _ _ ?_)
  refine wp_ret ?_
  refine (show bodyPost Try.prog Try.f64 _ .ret _ _ from ret1 rfl zz4 e4 ⟨_, rfl, kw, ?_⟩)
  exact rfl
end Go.Proofs.Ytnobijngkpflcaa
namespace Go.Proofs.Ytnobijngkpflcaa
open Go.Eng
set_option maxRecDepth 100000 in
set_option maxHeartbeats 1000000 in
theorem AuthTells_ok (au bu : Au) (id : ByteArray) (hid : id.size ≤ maxLen) (w : World) (S : BSet) (v u : Value) (hv : Rd w S au.d v) (hu : Rd w S bu.d u) : Calls Try.prog 10 #[v, u, .string id] w (Ret w fun u _ => u = .bool true) := by
  obtain ⟨p0_1a, p0_1c, ev, D_p0_1⟩ := rdAu_out (rd_arg hv)
  subst ev
  obtain ⟨p1_1a, p1_1c, ev, D_p1_1⟩ := rdAu_out (rd_arg hu)
  subst ev
  refine enter Try.func10 rfl Try.ntmps10 (lbr rfl) fun a0 y0 zz0 harg => ?_
  have e0 : sl a0 0 = (.agg #[(.int .i64 (au.th)), (.slice p0_1a (au.ids.length) p0_1c)]) := harg 0 (lbr rfl)
  have e1 : sl a0 1 = (.agg #[(.int .i64 (bu.th)), (.slice p1_1a (bu.ids.length) p1_1c)]) := harg 1 (lbr rfl)
  have e2 : sl a0 2 = (.string (id)) := harg 2 (lbr rfl)
  have kw := Keeps.refl All w
  clear harg
  refine wp_seq_k fun K1 hK1 => ?_
  refine rg mixed y0 zz0 ?_
  refine .boxOp (v := (.agg #[(.int .i64 (au.th)), (.slice p0_1a (au.ids.length) p0_1c)])) (hbs rfl e0) ?_
  refine .boxOp (v := (.agg #[(.int .i64 (bu.th)), (.slice p1_1a (bu.ids.length) p1_1c)])) (hbs rfl e1) ?_
  refine .i (sp_assign Has.cst) ?_
  refine .done ⟨by kernel_rfl, fun a2 g W2 y2 zz2 hk hg hV hR hP => ?_⟩
  obtain ⟨-, ⟨b4_2, e4, hb4, own_b4_2⟩, ⟨b3_2, e3, hb3, own_b3_2⟩, -⟩ := hV
  have lo_b4_2 : w.heap.size ≤ b4_2 := Nat.le_trans kw.size (hg.lo _ _ hb4)
  have own_b4_2 : Own W2 b4_2 [(.int .i64 (bu.th)), (.slice p1_1a (bu.ids.length) p1_1c)] 27 := own_b4_2
  have lo_b3_2 : w.heap.size ≤ b3_2 := Nat.le_trans kw.size (hg.lo _ _ hb3)
  have own_b3_2 : Own W2 b3_2 [(.int .i64 (au.th)), (.slice p0_1a (au.ids.length) p0_1c)] 27 := own_b3_2
  have ne_b4_2_b3_2 : b4_2 ≠ b3_2 := fun h => by have := hg.inj _ _ _ hb4 (h ▸ hb3); cases this
  replace e2 := (hR 2 rfl).trans e2
  replace D_p0_1 := sa_more D_p0_1 hk [b4_2, b3_2] (in_cons (hg.lo _ _ hb4) (in_cons (hg.lo _ _ hb3) in_nil))
  replace D_p1_1 := sa_more D_p1_1 hk [b4_2, b3_2] (in_cons (hg.lo _ _ hb4) (in_cons (hg.lo _ _ hb3) in_nil))
  replace kw := kw.x hk
  clear hR hk hg hP hb4 hb3
  refine tail_nil (hK1 _ _ ?_)
  refine wp_seq_k fun K3 hK3 => ?_
  refine wp_seq_k fun K4 hK4 => ?_
  refine rg mixed y2 zz2 ?_
  refine .i (v := (.agg #[(.int .i64 (au.th)), (.slice p0_1a (au.ids.length) p0_1c)])) (loA (hbs rfl e3) own_b3_2 trivial agg27 sz27 rfl rfl) ?_
  refine .i (v := (.agg #[(.int .i64 (bu.th)), (.slice p1_1a (bu.ids.length) p1_1c)])) (loA (hbs rfl e4) own_b4_2 trivial agg27 sz27 rfl rfl) ?_
  refine .da (X := SA w S [b4_2, b3_2]) (e := ausD ([au, bu])) (sp_bsl (ds := [Au.d (au), Au.d (bu)]) Try.underlying153 sz27 z27 (lbr rfl) (lbr rfl) ⟨rfl, ((hlc rfl).dat (rdAu_mk D_p0_1 : Rd W2 (SA w S [b4_2, b3_2]) (Au.d (au)) _) sub_all), ⟨rfl, ((hlc rfl).dat (rdAu_mk D_p1_1 : Rd W2 (SA w S [b4_2, b3_2]) (Au.d (bu)) _) sub_all), trivial⟩⟩ rfl (by intro e he; simp at he; rcases he with rfl | rfl <;> exact width_Au _) (fr_sa kw (in_cons own_b4_2.lt (in_cons own_b3_2.lt in_nil)))) ?_
  refine .i (v := (.bool (decide (5000 ≤ szA ([au, bu]) 0)))) (sp_call1 (φ1 := IsD (SA w S [b4_2, b3_2]) (ausD ([au, bu]))) ent49 (hlc rfl) (fun g u1 W hk hgk h1 => longA_ok ([au, bu]) W _ _ h1)) ?_
  refine .i (sp_move (hlc rfl)) ?_
  refine .e (t := 17) rfl (hlc rfl) (fun hg => sp_move (hbs rfl e2)) ?_
  refine .e (t := 17) rfl (hlc rfl) (fun hg => sp_lenS Try.underlying9 ((hlc rfl).undE hg)) ?_
  refine .e (t := 17) rfl (hlc rfl) (fun hg => sp_gtr ((hlc rfl).undE hg) Has.cst) ?_
  refine .i (sp_or (hlc rfl) ((hlc rfl).weak fun hq => hq)) ?_
  refine .done ⟨by kernel_rfl, fun a5 g W5 y5 zz5 hk hg hV hR hP => ?_⟩
  obtain ⟨e21, -, -, -, -, -, -, -, -, -⟩ := hV
  replace e2 := (hR 2 rfl).trans e2
  replace e4 := (hR 4 rfl).trans e4
  replace e3 := (hR 3 rfl).trans e3
  replace D_p0_1 := D_p0_1.ext hk
  replace D_p1_1 := D_p1_1.ext hk
  replace e21 := e21.q
  replace own_b4_2 := own_b4_2.ext hk
  replace own_b3_2 := own_b3_2.ext hk
  replace kw := kw.x hk
  clear hR hk hg hP
  refine tail_nil (hK4 _ _ ?_)
  refine wp_cond_split e21 (fun hc => ?_) (fun hc => ?_)
  ·
   refine wp_seq_k fun K6 hK6 => ?_
   refine rg mixed y5 zz5 ?_
   refine .i (v := (.bool (true))) (sp_call0  ent14  (fun g  W hk hgk  => awakeA_ok W)) ?_
   refine .i (sp_assign (hlc rfl)) ?_
   refine .done ⟨by kernel_rfl, fun a7 g W7 y7 zz7 hk hg hV hR hP => ?_⟩
   obtain ⟨e6, -, -⟩ := hV
   replace D_p0_1 := D_p0_1.ext hk
   replace D_p1_1 := D_p1_1.ext hk
   have e6 : sl a7 6 = (.bool (true)) := e6
   replace own_b4_2 := own_b4_2.ext hk
   replace own_b3_2 := own_b3_2.ext hk
   replace kw := kw.x hk
   clear hR hk hg hP
   refine tail_nil (hK6 _ _ ?_)
   refine wp_ret ?_
   refine (show bodyPost Try.prog Try.f10 _ .ret _ _ from ret1 rfl zz7 e6 ⟨_, rfl, kw, ?_⟩)
   exact rfl
  ·
   simp only [Bool.or_eq_false_iff, decide_eq_false_iff_not] at hc
   obtain ⟨hlong, -⟩ := hc
   have hsz : szI au.ids 0 < 5000 := by have h1 := (szA_le [bu] (szI au.ids 0)).1; have h2 : szA [au, bu] 0 = szA [bu] (szI au.ids 0) := rfl; omega
   have hw := authL_wtL hsz
   have hln := szI_len au.ids 0 hsz
   have hp0 : 0 < (authL au).length := by simp [authL]
   have hp1 : 1 < (authL au).length := by simp [authL]
   have hcv := Nat.le_trans (cnt_wt _) (valV_wt au)
   refine wp_skip (hK3 _ _ ?_)
   refine wp_seq_k fun K8 hK8 => ?_
   refine rg mixed y5 zz5 ?_
   refine .i (v := (.agg #[(.int .i64 (au.th)), (.slice p0_1a (au.ids.length) p0_1c)])) (loA (hbs rfl e3) own_b3_2 trivial agg27 sz27 rfl rfl) ?_
   refine .op (φ := IsT (IsD (Fr W5) (V.d (valV au))) (Is (.int .i64 (valE au)))) (st_t (st_d sub_all) (st_is _)) (sp_call1 (φ1 := IsD (SA w S [b4_2, b3_2]) (Au.d (au))) ent50 ((hlc rfl).dat (rdAu_mk D_p0_1 : Rd W5 (SA w S [b4_2, b3_2]) (Au.d (au)) _) sub_all) (fun g u1 W hk hgk h1 => (ValueA_ok (au) hw W _ _ h1).mono (fun _ _ ⟨v, h1, h2, r1, h3, h4⟩ => ⟨v, h1, h2, r1, _, h3, fresh_d hk hgk h4, rfl⟩))) ?_
   refine .op (φ := IsT (IsD (Fr W5) (V.d (valV au))) (Is (.int .i64 (valE au)))) (st_t (st_d sub_all) (st_is _)) (sp_move (hlc rfl)) ?_
   refine .da (X := Fr W5) (e := V.d (valV au)) (sp_ext2 (hlc rfl) rfl) ?_
   refine .i (v := (.int .i64 (valE au))) (sp_ext2' (hlc rfl) rfl) ?_
   refine .alloc z33 ?_
   refine .done ⟨by kernel_rfl, fun a9 g W9 y9 zz9 hk hg hV hR hP => ?_⟩
   obtain ⟨⟨b7_9, e7, hb7, own_b7_9⟩, e27, e26, -, -, -, -⟩ := hV
   have lo_b7_9 : w.heap.size ≤ b7_9 := Nat.le_trans kw.size (hg.lo _ _ hb7)
   have ne_b4_2_b7_9 : b4_2 ≠ b7_9 := Nat.ne_of_lt (Nat.lt_of_lt_of_le own_b4_2.lt (hg.lo _ _ hb7))
   have ne_b3_2_b7_9 : b3_2 ≠ b7_9 := Nat.ne_of_lt (Nat.lt_of_lt_of_le own_b3_2.lt (hg.lo _ _ hb7))
   have own_b7_9 : Own W9 b7_9 [(.int .u8 (0)), (.int .i64 (0)), (.string (⟨#[]⟩)), (.slice none 0 0), (.slice none 0 0)] 33 := own_b7_9
   replace e2 := (hR 2 rfl).trans e2
   replace e4 := (hR 4 rfl).trans e4
   replace e3 := (hR 3 rfl).trans e3
   replace D_p0_1 := sa_more D_p0_1 hk [b7_9] (in_cons (hg.lo _ _ hb7) in_nil)
   replace D_p1_1 := sa_more D_p1_1 hk [b7_9] (in_cons (hg.lo _ _ hb7) in_nil)
   obtain ⟨v26_9, ev⟩ : ∃ v, sl a9 26 = v := ⟨_, rfl⟩
   rw [ev] at e26
   have D_v26_9 : Rd W9 (SF w [b7_9, b4_2, b3_2]) (V.d (valV au)) v26_9 := fr_end (M := [b4_2, b3_2]) e26 kw [b7_9] (in_cons ⟨_, hb7⟩ in_nil) (in_cons own_b4_2.lt (in_cons own_b3_2.lt in_nil))
   replace e26 := ev; clear ev
   obtain ⟨cn26_9a, cn26_9c, ci26_9a, ci26_9c, ev, ht_v26_9, D_cn26_9, D_ci26_9⟩ := rdV_out D_v26_9
   subst ev; clear D_v26_9
   have e27 : sl a9 27 = (.int .i64 (valE au)) := e27
   replace own_b4_2 := own_b4_2.ext hk
   replace own_b3_2 := own_b3_2.ext hk
   replace kw := kw.x hk
   clear hR hk hg hP hb7
   refine tail_store (b := b7_9) (o := 0) (v := (.agg #[(.int .u8 ((valV au).k)), (.int .i64 ((valV au).n)), (.string ((valV au).t)), (.slice cn26_9a (((valV au).ns).length) cn26_9c), (.slice ci26_9a (((valV au).xs).length) ci26_9c)])) e7 e26 sz33 rfl own_b7_9 (lbr rfl) (all_cons rfl (all_cons rfl (all_cons rfl (all_cons rfl (all_cons rfl all_nil))))) (fun W10 hs own_b7_9 => ?_)
   have own_b7_9 : Own W10 b7_9 [(.int .u8 ((valV au).k)), (.int .i64 ((valV au).n)), (.string ((valV au).t)), (.slice cn26_9a (((valV au).ns).length) cn26_9c), (.slice ci26_9a (((valV au).xs).length) ci26_9c)] 33 := own_b7_9
   replace own_b4_2 := own_store own_b4_2 hs ne_b4_2_b7_9
   replace own_b3_2 := own_store own_b3_2 hs ne_b3_2_b7_9
   replace D_p0_1 := sa_store D_p0_1 hs (by simp)
   replace D_p1_1 := sa_store D_p1_1 hs (by simp)
   replace D_cn26_9 := sf_store D_cn26_9 hs (by simp)
   replace D_ci26_9 := sf_store D_ci26_9 hs (by simp)
   replace kw := keeps_store kw hs lo_b7_9
   clear hs
   refine tail_assign (v := (.int .i64 (valE au))) e27 (by rw [y9]; exact Nat.le_of_ble_eq_true rfl) (fun a11 y11 zz11 e8 hr => ?_)
   replace y11 := y11.trans y9; replace zz11 := zz11.trans zz9
   replace e2 := (hr 2 (by decide)).trans e2
   replace e4 := (hr 4 (by decide)).trans e4
   replace e3 := (hr 3 (by decide)).trans e3
   replace e7 := (hr 7 (by decide)).trans e7
   replace e26 := (hr 26 (by decide)).trans e26
   replace e27 := (hr 27 (by decide)).trans e27
   clear hr
   refine tail_nil (hK8 _ _ ?_)
   refine wp_seq_k fun K12 hK12 => ?_
   refine rg mixed y11 zz11 ?_
   refine .i (v := (.agg #[(.int .i64 (au.th)), (.slice p0_1a (au.ids.length) p0_1c)])) (loA (hbs rfl e3) own_b3_2 trivial agg27 sz27 rfl rfl) ?_
   refine .op (φ := IsT (IsD (Fr W10) (V.d (valV au))) (Is (.int .i64 (valE au)))) (st_t (st_d sub_all) (st_is _)) (sp_call1 (φ1 := IsD (SA w S [b7_9, b4_2, b3_2]) (Au.d (au))) ent62 ((hlc rfl).dat (rdAu_mk D_p0_1 : Rd W10 (SA w S [b7_9, b4_2, b3_2]) (Au.d (au)) _) sub_all) (fun g u1 W hk hgk h1 => (refValueA_ok (au) W _ _ h1).mono (fun _ _ ⟨v, h1, h2, r1, h3, h4⟩ => ⟨v, h1, h2, r1, _, h3, fresh_d hk hgk h4, rfl⟩))) ?_
   refine .op (φ := IsT (IsD (Fr W10) (V.d (valV au))) (Is (.int .i64 (valE au)))) (st_t (st_d sub_all) (st_is _)) (sp_move (hlc rfl)) ?_
   refine .da (X := Fr W10) (e := V.d (valV au)) (sp_ext2 (hlc rfl) rfl) ?_
   refine .i (v := (.int .i64 (valE au))) (sp_ext2' (hlc rfl) rfl) ?_
   refine .alloc z33 ?_
   refine .done ⟨by kernel_rfl, fun a13 g W13 y13 zz13 hk hg hV hR hP => ?_⟩
   obtain ⟨⟨b9_13, e9, hb9, own_b9_13⟩, e32, e31, -, -, -, -⟩ := hV
   have lo_b9_13 : w.heap.size ≤ b9_13 := Nat.le_trans kw.size (hg.lo _ _ hb9)
   have ne_b4_2_b9_13 : b4_2 ≠ b9_13 := Nat.ne_of_lt (Nat.lt_of_lt_of_le own_b4_2.lt (hg.lo _ _ hb9))
   have ne_b3_2_b9_13 : b3_2 ≠ b9_13 := Nat.ne_of_lt (Nat.lt_of_lt_of_le own_b3_2.lt (hg.lo _ _ hb9))
   have ne_b7_9_b9_13 : b7_9 ≠ b9_13 := Nat.ne_of_lt (Nat.lt_of_lt_of_le own_b7_9.lt (hg.lo _ _ hb9))
   have own_b9_13 : Own W13 b9_13 [(.int .u8 (0)), (.int .i64 (0)), (.string (⟨#[]⟩)), (.slice none 0 0), (.slice none 0 0)] 33 := own_b9_13
   replace e2 := (hR 2 rfl).trans e2
   replace e4 := (hR 4 rfl).trans e4
   replace e3 := (hR 3 rfl).trans e3
   replace e7 := (hR 7 rfl).trans e7
   replace e8 := (hR 8 rfl).trans e8
   replace D_p0_1 := sa_more D_p0_1 hk [b9_13] (in_cons (hg.lo _ _ hb9) in_nil)
   replace D_p1_1 := sa_more D_p1_1 hk [b9_13] (in_cons (hg.lo _ _ hb9) in_nil)
   replace D_cn26_9 := sf_more D_cn26_9 hk [b9_13] (in_cons (hg.lo _ _ hb9) in_nil)
   replace D_ci26_9 := sf_more D_ci26_9 hk [b9_13] (in_cons (hg.lo _ _ hb9) in_nil)
   obtain ⟨v31_13, ev⟩ : ∃ v, sl a13 31 = v := ⟨_, rfl⟩
   rw [ev] at e31
   have D_v31_13 : Rd W13 (SF w [b9_13, b7_9, b4_2, b3_2]) (V.d (valV au)) v31_13 := fr_end (M := [b7_9, b4_2, b3_2]) e31 kw [b9_13] (in_cons ⟨_, hb9⟩ in_nil) (in_cons own_b7_9.lt (in_cons own_b4_2.lt (in_cons own_b3_2.lt in_nil)))
   replace e31 := ev; clear ev
   obtain ⟨cn31_13a, cn31_13c, ci31_13a, ci31_13c, ev, ht_v31_13, D_cn31_13, D_ci31_13⟩ := rdV_out D_v31_13
   subst ev; clear D_v31_13
   have e32 : sl a13 32 = (.int .i64 (valE au)) := e32
   replace own_b4_2 := own_b4_2.ext hk
   replace own_b3_2 := own_b3_2.ext hk
   replace own_b7_9 := own_b7_9.ext hk
   replace kw := kw.x hk
   clear hR hk hg hP hb9
   refine tail_store (b := b9_13) (o := 0) (v := (.agg #[(.int .u8 ((valV au).k)), (.int .i64 ((valV au).n)), (.string ((valV au).t)), (.slice cn31_13a (((valV au).ns).length) cn31_13c), (.slice ci31_13a (((valV au).xs).length) ci31_13c)])) e9 e31 sz33 rfl own_b9_13 (lbr rfl) (all_cons rfl (all_cons rfl (all_cons rfl (all_cons rfl (all_cons rfl all_nil))))) (fun W14 hs own_b9_13 => ?_)
   have own_b9_13 : Own W14 b9_13 [(.int .u8 ((valV au).k)), (.int .i64 ((valV au).n)), (.string ((valV au).t)), (.slice cn31_13a (((valV au).ns).length) cn31_13c), (.slice ci31_13a (((valV au).xs).length) ci31_13c)] 33 := own_b9_13
   replace own_b4_2 := own_store own_b4_2 hs ne_b4_2_b9_13
   replace own_b3_2 := own_store own_b3_2 hs ne_b3_2_b9_13
   replace own_b7_9 := own_store own_b7_9 hs ne_b7_9_b9_13
   replace D_p0_1 := sa_store D_p0_1 hs (by simp)
   replace D_p1_1 := sa_store D_p1_1 hs (by simp)
   replace D_cn26_9 := sf_store D_cn26_9 hs (by simp)
   replace D_ci26_9 := sf_store D_ci26_9 hs (by simp)
   replace D_cn31_13 := sf_store D_cn31_13 hs (by simp)
   replace D_ci31_13 := sf_store D_ci31_13 hs (by simp)
   replace kw := keeps_store kw hs lo_b9_13
   clear hs
   refine tail_assign (v := (.int .i64 (valE au))) e32 (by rw [y13]; exact Nat.le_of_ble_eq_true rfl) (fun a15 y15 zz15 e10 hr => ?_)
   replace y15 := y15.trans y13; replace zz15 := zz15.trans zz13
   replace e2 := (hr 2 (by decide)).trans e2
   replace e4 := (hr 4 (by decide)).trans e4
   replace e3 := (hr 3 (by decide)).trans e3
   replace e7 := (hr 7 (by decide)).trans e7
   replace e8 := (hr 8 (by decide)).trans e8
   replace e9 := (hr 9 (by decide)).trans e9
   replace e31 := (hr 31 (by decide)).trans e31
   replace e32 := (hr 32 (by decide)).trans e32
   clear hr
   refine tail_nil (hK12 _ _ ?_)
   refine wp_seq_k fun K16 hK16 => ?_
   refine rg mixed y15 zz15 ?_
   refine .i (v := (.agg #[(.int .i64 (au.th)), (.slice p0_1a (au.ids.length) p0_1c)])) (loA (hbs rfl e3) own_b3_2 trivial agg27 sz27 rfl rfl) ?_
   refine .da (X := Fr W14) (e := mbsD (authL au)) (sp_call1 (φ1 := IsD (SA w S [b9_13, b7_9, b4_2, b3_2]) (Au.d (au))) ent51 ((hlc rfl).dat (rdAu_mk D_p0_1 : Rd W14 (SA w S [b9_13, b7_9, b4_2, b3_2]) (Au.d (au)) _) sub_all) (fun g u1 W hk hgk h1 => (Members_ok (au) (by omega) W _ _ h1).mono (ret_fr hk hgk))) ?_
   refine .i (v := (.agg #[(.int .i64 (au.th)), (.slice p0_1a (au.ids.length) p0_1c)])) (loA (hbs rfl e3) own_b3_2 trivial agg27 sz27 rfl rfl) ?_
   refine .da (X := Fr W14) (e := mbsD (authL au)) (sp_call1 (φ1 := IsD (SA w S [b9_13, b7_9, b4_2, b3_2]) (Au.d (au))) ent63 ((hlc rfl).dat (rdAu_mk D_p0_1 : Rd W14 (SA w S [b9_13, b7_9, b4_2, b3_2]) (Au.d (au)) _) sub_all) (fun g u1 W hk hgk h1 => (refMembers_ok (au) (by omega) W _ _ h1).mono (ret_fr hk hgk))) ?_
   refine .da (X := Fr W14) (e := mbsD (authL au)) (sp_assign (hlc rfl)) ?_
   refine .da (X := Fr W14) (e := mbsD (authL au)) (sp_assign (hlc rfl)) ?_
   refine .done ⟨by kernel_rfl, fun a17 g W17 y17 zz17 hk hg hV hR hP => ?_⟩
   obtain ⟨e12, e11, -, -, -, -, -⟩ := hV
   replace e2 := (hR 2 rfl).trans e2
   replace e4 := (hR 4 rfl).trans e4
   replace e3 := (hR 3 rfl).trans e3
   replace e7 := (hR 7 rfl).trans e7
   replace e8 := (hR 8 rfl).trans e8
   replace e9 := (hR 9 rfl).trans e9
   replace e10 := (hR 10 rfl).trans e10
   replace D_p0_1 := D_p0_1.ext hk
   replace D_p1_1 := D_p1_1.ext hk
   replace D_cn26_9 := D_cn26_9.ext hk
   replace D_ci26_9 := D_ci26_9.ext hk
   replace D_cn31_13 := D_cn31_13.ext hk
   replace D_ci31_13 := D_ci31_13.ext hk
   obtain ⟨v11_17, ev⟩ : ∃ v, sl a17 11 = v := ⟨_, rfl⟩
   rw [ev] at e11
   have D_v11_17 : Rd W17 (SF w [b9_13, b7_9, b4_2, b3_2]) (mbsD (authL au)) v11_17 := fr_end (M := [b9_13, b7_9, b4_2, b3_2]) e11 kw [] in_nil (in_cons own_b9_13.lt (in_cons own_b7_9.lt (in_cons own_b4_2.lt (in_cons own_b3_2.lt in_nil))))
   replace e11 := ev; clear ev
   obtain ⟨v11_17a, v11_17c, ev, D2⟩ := rdMbs_out D_v11_17
   subst ev; replace D_v11_17 := D2; clear D2
   obtain ⟨v12_17, ev⟩ : ∃ v, sl a17 12 = v := ⟨_, rfl⟩
   rw [ev] at e12
   have D_v12_17 : Rd W17 (SF w [b9_13, b7_9, b4_2, b3_2]) (mbsD (authL au)) v12_17 := fr_end (M := [b9_13, b7_9, b4_2, b3_2]) e12 kw [] in_nil (in_cons own_b9_13.lt (in_cons own_b7_9.lt (in_cons own_b4_2.lt (in_cons own_b3_2.lt in_nil))))
   replace e12 := ev; clear ev
   obtain ⟨v12_17a, v12_17c, ev, D2⟩ := rdMbs_out D_v12_17
   subst ev; replace D_v12_17 := D2; clear D2
   replace own_b4_2 := own_b4_2.ext hk
   replace own_b3_2 := own_b3_2.ext hk
   replace own_b7_9 := own_b7_9.ext hk
   replace own_b9_13 := own_b9_13.ext hk
   replace kw := kw.x hk
   clear hR hk hg hP
   refine tail_nil (hK16 _ _ ?_)
   refine wp_seq_k fun K18 hK18 => ?_
   refine wp_seq_k fun K19 hK19 => ?_
   refine rg mixed y17 zz17 ?_
   refine .i (sp_move (hbs rfl e11)) ?_
   refine .i (sp_lenL Try.underlying82 ((hlc rfl).dat D_v11_17 sub_all)) ?_
   refine .i (sp_neq (hlc rfl) Has.cst) ?_
   refine .i (sp_move (hlc rfl)) ?_
   refine .e (t := 40) rfl (hlc rfl) (fun hg => sp_move (hbs rfl e11)) ?_
   refine .opE (t := 40) (φ := IsR (SF w [b9_13, b7_9, b4_2, b3_2]) (Mb.d ((authL au)[0]'hp0))) rfl (hlc rfl) (st_r sub_all) (fun hg => sp_indexL (i := 0) (((hlc rfl).undE hg).dat D_v11_17 sub_all) Has.cst Try.underlying82 sz67 rfl hp0) ?_
   refine .opE (t := 40) (φ := IsD (SF w [b9_13, b7_9, b4_2, b3_2]) (Mb.d ((authL au)[0]'hp0))) rfl (hlc rfl) (st_d sub_all) (fun hg => sp_loadR ((hlc rfl).undE hg) agg67 sz67 (width_Mb _)) ?_
   refine .e (t := 40) rfl (hlc rfl) (fun hg => sp_move (hbs rfl e12)) ?_
   refine .opE (t := 40) (φ := IsR (SF w [b9_13, b7_9, b4_2, b3_2]) (Mb.d ((authL au)[0]'hp0))) rfl (hlc rfl) (st_r sub_all) (fun hg => sp_indexL (i := 0) (((hlc rfl).undE hg).dat D_v12_17 sub_all) Has.cst Try.underlying106 sz109 rfl hp0) ?_
   refine .opE (t := 40) (φ := IsD (SF w [b9_13, b7_9, b4_2, b3_2]) (Mb.d ((authL au)[0]'hp0))) rfl (hlc rfl) (st_d sub_all) (fun hg => sp_loadR ((hlc rfl).undE hg) agg109 sz109 (width_Mb _)) ?_
   refine .e (t := 40) (v := (.bool (decide (((authL au)[0]'hp0).nm = ((authL au)[0]'hp0).nm) && V.beq ((authL au)[0]'hp0).v ((authL au)[0]'hp0).v))) rfl (hlc rfl) (fun hg => sp_call2 (φ1 := IsD (SF w [b9_13, b7_9, b4_2, b3_2]) (Mb.d ((authL au)[0]'hp0))) (φ2 := IsD (SF w [b9_13, b7_9, b4_2, b3_2]) (Mb.d ((authL au)[0]'hp0))) ent64 ((hlc rfl).undE hg) ((hlc rfl).undE hg) (fun g u1 u2 W hk hgk h1 h2 => member_ok ((authL au)[0]'hp0) ((authL au)[0]'hp0) W _ _ _ h1 h2 (Nat.le_trans (cnt_wt _) (hw _ (List.getElem_mem _))))) ?_
   refine .e (t := 40) rfl (hlc rfl) (fun hg => sp_not ((hlc rfl).undE hg)) ?_
   refine .i (sp_or (hlc rfl) ((hlc rfl).weak fun hq => hq)) ?_
   refine .i (sp_move (hlc rfl)) ?_
   refine .e (t := 50) rfl (hlc rfl) (fun hg => sp_move (hbs rfl e11)) ?_
   refine .opE (t := 50) (φ := IsR (SF w [b9_13, b7_9, b4_2, b3_2]) (Mb.d ((authL au)[1]'hp1))) rfl (hlc rfl) (st_r sub_all) (fun hg => sp_indexL (i := 1) (((hlc rfl).undE hg).dat D_v11_17 sub_all) Has.cst Try.underlying82 sz67 rfl hp1) ?_
   refine .opE (t := 50) (φ := IsD (SF w [b9_13, b7_9, b4_2, b3_2]) (Mb.d ((authL au)[1]'hp1))) rfl (hlc rfl) (st_d sub_all) (fun hg => sp_loadR ((hlc rfl).undE hg) agg67 sz67 (width_Mb _)) ?_
   refine .e (t := 50) rfl (hlc rfl) (fun hg => sp_move (hbs rfl e12)) ?_
   refine .opE (t := 50) (φ := IsR (SF w [b9_13, b7_9, b4_2, b3_2]) (Mb.d ((authL au)[1]'hp1))) rfl (hlc rfl) (st_r sub_all) (fun hg => sp_indexL (i := 1) (((hlc rfl).undE hg).dat D_v12_17 sub_all) Has.cst Try.underlying106 sz109 rfl hp1) ?_
   refine .opE (t := 50) (φ := IsD (SF w [b9_13, b7_9, b4_2, b3_2]) (Mb.d ((authL au)[1]'hp1))) rfl (hlc rfl) (st_d sub_all) (fun hg => sp_loadR ((hlc rfl).undE hg) agg109 sz109 (width_Mb _)) ?_
   refine .e (t := 50) (v := (.bool (decide (((authL au)[1]'hp1).nm = ((authL au)[1]'hp1).nm) && V.beq ((authL au)[1]'hp1).v ((authL au)[1]'hp1).v))) rfl (hlc rfl) (fun hg => sp_call2 (φ1 := IsD (SF w [b9_13, b7_9, b4_2, b3_2]) (Mb.d ((authL au)[1]'hp1))) (φ2 := IsD (SF w [b9_13, b7_9, b4_2, b3_2]) (Mb.d ((authL au)[1]'hp1))) ent64 ((hlc rfl).undE hg) ((hlc rfl).undE hg) (fun g u1 u2 W hk hgk h1 h2 => member_ok ((authL au)[1]'hp1) ((authL au)[1]'hp1) W _ _ _ h1 h2 (Nat.le_trans (cnt_wt _) (hw _ (List.getElem_mem _))))) ?_
   refine .e (t := 50) rfl (hlc rfl) (fun hg => sp_not ((hlc rfl).undE hg)) ?_
   refine .i (sp_or (hlc rfl) ((hlc rfl).weak fun hq => hq)) ?_
   refine .done ⟨by kernel_rfl, fun a20 g W20 y20 zz20 hk hg hV hR hP => ?_⟩
   obtain ⟨e59, -, -, -, -, -, -, -, -, -, -, -, -, -, -, -, -, -, -, -, -, -, -, -⟩ := hV
   replace e2 := (hR 2 rfl).trans e2
   replace e4 := (hR 4 rfl).trans e4
   replace e3 := (hR 3 rfl).trans e3
   replace e7 := (hR 7 rfl).trans e7
   replace e8 := (hR 8 rfl).trans e8
   replace e9 := (hR 9 rfl).trans e9
   replace e10 := (hR 10 rfl).trans e10
   replace D_p0_1 := D_p0_1.ext hk
   replace D_p1_1 := D_p1_1.ext hk
   replace D_cn26_9 := D_cn26_9.ext hk
   replace D_ci26_9 := D_ci26_9.ext hk
   replace D_cn31_13 := D_cn31_13.ext hk
   replace D_ci31_13 := D_ci31_13.ext hk
   replace D_v11_17 := D_v11_17.ext hk
   replace D_v12_17 := D_v12_17.ext hk
   replace e59 := e59.q
   replace own_b4_2 := own_b4_2.ext hk
   replace own_b3_2 := own_b3_2.ext hk
   replace own_b7_9 := own_b7_9.ext hk
   replace own_b9_13 := own_b9_13.ext hk
   replace kw := kw.x hk
   clear hR hk hg hP
   refine tail_nil (hK19 _ _ ?_)
   refine wp_cond_split e59 (fun hc => ?_) (fun hc => ?_)
   ·
    exfalso
    have h2 : (authL au).length = 2 := rfl
    rw [h2] at hc
    simp [beq_refl] at hc
   ·
    refine wp_skip (hK18 _ _ ?_)
    refine wp_seq_k fun K21 hK21 => ?_
    refine rg mixed y20 zz20 ?_
    refine .i (v := (.agg #[(.int .i64 (au.th)), (.slice p0_1a (au.ids.length) p0_1c)])) (loA (hbs rfl e3) own_b3_2 trivial agg27 sz27 rfl rfl) ?_
    refine .i (v := (.bool (mayA au))) (sp_call1 (φ1 := IsD (SA w S [b9_13, b7_9, b4_2, b3_2]) (Au.d (au))) ent18 ((hlc rfl).dat (rdAu_mk D_p0_1 : Rd W20 (SA w S [b9_13, b7_9, b4_2, b3_2]) (Au.d (au)) _) sub_all) (fun g u1 W hk hgk h1 => mayA_ok (au) W _ _ h1)) ?_
    refine .i (v := (.agg #[(.int .i64 (au.th)), (.slice p0_1a (au.ids.length) p0_1c)])) (loA (hbs rfl e3) own_b3_2 trivial agg27 sz27 rfl rfl) ?_
    refine .i (v := (.bool (mayA au))) (sp_call1 (φ1 := IsD (SA w S [b9_13, b7_9, b4_2, b3_2]) (Au.d (au))) ent65 ((hlc rfl).dat (rdAu_mk D_p0_1 : Rd W20 (SA w S [b9_13, b7_9, b4_2, b3_2]) (Au.d (au)) _) sub_all) (fun g u1 W hk hgk h1 => refMay_ok (au) W _ _ h1)) ?_
    refine .i (sp_bEql Try.underlying4 (hlc rfl) (hlc rfl)) ?_
    refine .i (sp_move (hlc rfl)) ?_
    refine .e (t := 65) (v := (.agg #[(.int .i64 (au.th)), (.slice p0_1a (au.ids.length) p0_1c)])) rfl (hlc rfl) (fun hg => loA (hbs rfl e3) own_b3_2 trivial agg27 sz27 rfl rfl) ?_
    refine .e (t := 65) rfl (hlc rfl) (fun hg => sp_move (hbs rfl e2)) ?_
    refine .e (t := 65) (v := (.bool (hasA au id))) rfl (hlc rfl) (fun hg => sp_call2 (φ1 := IsD (SA w S [b9_13, b7_9, b4_2, b3_2]) (Au.d (au))) (φ2 := Is (.string (id))) ent25 (((hlc rfl).undE hg).dat (rdAu_mk D_p0_1 : Rd W20 (SA w S [b9_13, b7_9, b4_2, b3_2]) (Au.d (au)) _) sub_all) ((hlc rfl).undE hg) (fun g u1 u2 W hk hgk h1 h2 => by have h2 : u2 = _ := h2; subst u2; exact hasA_ok (au) (id) W _ _ h1)) ?_
    refine .e (t := 65) (v := (.agg #[(.int .i64 (au.th)), (.slice p0_1a (au.ids.length) p0_1c)])) rfl (hlc rfl) (fun hg => loA (hbs rfl e3) own_b3_2 trivial agg27 sz27 rfl rfl) ?_
    refine .e (t := 65) rfl (hlc rfl) (fun hg => sp_move (hbs rfl e2)) ?_
    refine .e (t := 65) (v := (.bool (hasA au id))) rfl (hlc rfl) (fun hg => sp_call2 (φ1 := IsD (SA w S [b9_13, b7_9, b4_2, b3_2]) (Au.d (au))) (φ2 := Is (.string (id))) ent66 (((hlc rfl).undE hg).dat (rdAu_mk D_p0_1 : Rd W20 (SA w S [b9_13, b7_9, b4_2, b3_2]) (Au.d (au)) _) sub_all) ((hlc rfl).undE hg) (fun g u1 u2 W hk hgk h1 h2 => by have h2 : u2 = _ := h2; subst u2; exact refHas_ok (au) (id) W _ _ h1)) ?_
    refine .e (t := 65) rfl (hlc rfl) (fun hg => sp_bEql Try.underlying4 ((hlc rfl).undE hg) ((hlc rfl).undE hg)) ?_
    refine .i (sp_and (hlc rfl) ((hlc rfl).weak fun hq => hq)) ?_
    refine .i (sp_move (hlc rfl)) ?_
    refine .e (t := 74) (v := (.agg #[(.int .i64 (au.th)), (.slice p0_1a (au.ids.length) p0_1c)])) rfl (hlc rfl) (fun hg => loA (hbs rfl e3) own_b3_2 trivial agg27 sz27 rfl rfl) ?_
    refine .e (t := 74) (v := (.agg #[(.int .i64 (bu.th)), (.slice p1_1a (bu.ids.length) p1_1c)])) rfl (hlc rfl) (fun hg => loA (hbs rfl e4) own_b4_2 trivial agg27 sz27 rfl rfl) ?_
    refine .e (t := 74) (v := (.bool (sameA au bu))) rfl (hlc rfl) (fun hg => sp_call2 (φ1 := IsD (SA w S [b9_13, b7_9, b4_2, b3_2]) (Au.d (au))) (φ2 := IsD (SA w S [b9_13, b7_9, b4_2, b3_2]) (Au.d (bu))) ent67 (((hlc rfl).undE hg).dat (rdAu_mk D_p0_1 : Rd W20 (SA w S [b9_13, b7_9, b4_2, b3_2]) (Au.d (au)) _) sub_all) (((hlc rfl).undE hg).dat (rdAu_mk D_p1_1 : Rd W20 (SA w S [b9_13, b7_9, b4_2, b3_2]) (Au.d (bu)) _) sub_all) (fun g u1 u2 W hk hgk h1 h2 => SameA_ok (au) (bu) W _ _ _ h1 h2)) ?_
    refine .e (t := 74) (v := (.agg #[(.int .i64 (au.th)), (.slice p0_1a (au.ids.length) p0_1c)])) rfl (hlc rfl) (fun hg => loA (hbs rfl e3) own_b3_2 trivial agg27 sz27 rfl rfl) ?_
    refine .e (t := 74) (v := (.agg #[(.int .i64 (bu.th)), (.slice p1_1a (bu.ids.length) p1_1c)])) rfl (hlc rfl) (fun hg => loA (hbs rfl e4) own_b4_2 trivial agg27 sz27 rfl rfl) ?_
    refine .e (t := 74) (v := (.bool (sameA au bu))) rfl (hlc rfl) (fun hg => sp_call2 (φ1 := IsD (SA w S [b9_13, b7_9, b4_2, b3_2]) (Au.d (au))) (φ2 := IsD (SA w S [b9_13, b7_9, b4_2, b3_2]) (Au.d (bu))) ent20 (((hlc rfl).undE hg).dat (rdAu_mk D_p0_1 : Rd W20 (SA w S [b9_13, b7_9, b4_2, b3_2]) (Au.d (au)) _) sub_all) (((hlc rfl).undE hg).dat (rdAu_mk D_p1_1 : Rd W20 (SA w S [b9_13, b7_9, b4_2, b3_2]) (Au.d (bu)) _) sub_all) (fun g u1 u2 W hk hgk h1 h2 => refSameA_ok (au) (bu) W _ _ _ h1 h2)) ?_
    refine .e (t := 74) rfl (hlc rfl) (fun hg => sp_bEql Try.underlying4 ((hlc rfl).undE hg) ((hlc rfl).undE hg)) ?_
    refine .i (sp_and (hlc rfl) ((hlc rfl).weak fun hq => hq)) ?_
    refine .i (sp_move (hlc rfl)) ?_
    refine .e (t := 83) rfl (hlc rfl) (fun hg => sp_move (hbs rfl e8)) ?_
    refine .e (t := 83) rfl (hlc rfl) (fun hg => sp_move (hbs rfl e10)) ?_
    refine .e (t := 83) rfl (hlc rfl) (fun hg => sp_eql ((hlc rfl).undE hg) ((hlc rfl).undE hg)) ?_
    refine .i (sp_and (hlc rfl) ((hlc rfl).weak fun hq => hq)) ?_
    refine .i (sp_move (hlc rfl)) ?_
    refine .e (t := 88) (v := (.agg #[(.int .u8 ((valV au).k)), (.int .i64 ((valV au).n)), (.string ((valV au).t)), (.slice cn26_9a (((valV au).ns).length) cn26_9c), (.slice ci26_9a (((valV au).xs).length) ci26_9c)])) rfl (hlc rfl) (fun hg => loA (hbs rfl e7) own_b7_9 trivial agg33 sz33 rfl rfl) ?_
    refine .e (t := 88) (v := (.agg #[(.int .u8 ((valV au).k)), (.int .i64 ((valV au).n)), (.string ((valV au).t)), (.slice cn31_13a (((valV au).ns).length) cn31_13c), (.slice ci31_13a (((valV au).xs).length) ci31_13c)])) rfl (hlc rfl) (fun hg => loA (hbs rfl e9) own_b9_13 trivial agg33 sz33 rfl rfl) ?_
    refine .e (t := 88) (v := (.bool (V.beq ((valV au)) ((valV au))))) rfl (hlc rfl) (fun hg => sp_call2 (φ1 := IsD (SF w [b9_13, b7_9, b4_2, b3_2]) (V.d ((valV au)))) (φ2 := IsD (SF w [b9_13, b7_9, b4_2, b3_2]) (V.d ((valV au)))) ent34 (((hlc rfl).undE hg).dat (rdV_in (x := (valV au)) ht_v26_9 D_cn26_9 D_ci26_9 : Rd W20 (SF w [b9_13, b7_9, b4_2, b3_2]) (V.d ((valV au))) _) sub_all) (((hlc rfl).undE hg).dat (rdV_in (x := (valV au)) ht_v31_13 D_cn31_13 D_ci31_13 : Rd W20 (SF w [b9_13, b7_9, b4_2, b3_2]) (V.d ((valV au))) _) sub_all) (fun g u1 u2 W hk hgk h1 h2 => refSame_all _ ((valV au)) ((valV au)) (Nat.le_refl _) (by first | omega | exact Nat.le_of_ble_eq_true (by kernel_rfl)) W _ _ _ h1 h2)) ?_
    refine .i (sp_and (hlc rfl) ((hlc rfl).weak fun hq => hq)) ?_
    refine .i (sp_move (hlc rfl)) ?_
    refine .e (t := 93) (v := (.bool (true))) rfl (hlc rfl) (fun hg => sp_call0  ent14  (fun g  W hk hgk  => awakeA_ok W)) ?_
    refine .i (sp_and (hlc rfl) ((hlc rfl).weak fun hq => hq)) ?_
    refine .i (sp_assign (hlc rfl)) ?_
    refine .done ⟨by kernel_rfl, fun a22 g W22 y22 zz22 hk hg hV hR hP => ?_⟩
    obtain ⟨e6, -, -, -, -, -, -, -, -, -, -, -, -, -, -, -, -, -, -, -, -, -, -, -, -, -, -, -, -, -, -, -, -, -, -, -, -, -⟩ := hV
    replace D_p0_1 := D_p0_1.ext hk
    replace D_p1_1 := D_p1_1.ext hk
    replace D_cn26_9 := D_cn26_9.ext hk
    replace D_ci26_9 := D_ci26_9.ext hk
    replace D_cn31_13 := D_cn31_13.ext hk
    replace D_ci31_13 := D_ci31_13.ext hk
    replace e6 := e6.q
    replace own_b4_2 := own_b4_2.ext hk
    replace own_b3_2 := own_b3_2.ext hk
    replace own_b7_9 := own_b7_9.ext hk
    replace own_b9_13 := own_b9_13.ext hk
    replace kw := kw.x hk
    clear hR hk hg hP
    refine tail_nil (hK21 _ _ ?_)
    refine wp_ret ?_
    refine (show bodyPost Try.prog Try.f10 _ .ret _ _ from ret1 rfl zz22 e6 ⟨_, rfl, kw, ?_⟩)
    refine congrArg Value.bool ?_
    simp [beq_refl]
end Go.Proofs.Ytnobijngkpflcaa
namespace Go.Eng
open Go.ChangeShapes Go.WideShapes Go.ChangeAt Go.RowKit
def Univ : BSet := fun _ _ => True
mutual
def HasT (P : Program) : D → TypeId → Prop
  | .bool _, t => P.underlying t = some .bool
  | .int k n, t => P.underlying t = some (.int k) ∧ (Lit.int k n).wf = true
  | .str s, t => P.underlying t = some .string ∧ s.size ≤ maxLen
  | .lst sz xs, t => ∃ e, P.underlying t = some (.slice e) ∧ sz = P.cellsOf e ∧ HasTL P xs e
  | .agg xs, t => ∃ fs, P.underlying t = some (.struct fs) ∧ HasTF P xs (fs.toList.map (·.type))
def HasTL (P : Program) : List D → TypeId → Prop
  | [], _ => True
  | x :: xs, e => HasT P x e ∧ HasTL P xs e
def HasTF (P : Program) : List D → List TypeId → Prop
  | [], [] => True
  | x :: xs, t :: ts => HasT P x t ∧ HasTF P xs ts
  | _, _ => False
end
theorem hasTL_of {P : Program} {e : TypeId} : ∀ (xs : List D), (∀ i (h : i < xs.length), HasT P xs[i] e) → HasTL P xs e
  | [], _ => by simp [HasTL]
  | x :: xs, h => by
    simp only [HasTL]
    exact ⟨h 0 (by simp), hasTL_of xs fun i hi => h (i + 1) (by simpa using hi)⟩
def offs (P : Program) : List Field → Nat → Option Nat
  | [], o => some o
  | f :: r, o => if f.offset = o then offs P r (o + P.cellsOf f.type) else none
def plain1 (P : Program) (ts : List TypeId) (t : TypeId) : Bool := match P.underlying t with
  | some .bool => true
  | some (.int _) => true
  | some .string => true
  | some (.slice e) => ts.contains e && decide (0 < P.cellsOf e)
  | some (.struct fs) => (fs.toList.all fun f => ts.contains f.type) && decide (offs P fs.toList 0 = some (P.cellsOf t))
  | _ => false
theorem exists_list {α : Type} {p : Nat → α → Prop} : ∀ n : Nat, (∀ i, i < n → ∃ x, p i x) → ∃ xs : List α, xs.length = n ∧ ∀ i (h : i < xs.length), p i xs[i]
  | 0, _ => ⟨[], rfl, fun i h => by simp at h⟩
  | n + 1, h => by
    obtain ⟨xs, hl, hx⟩ := exists_list n fun i hi => h i (by omega)
    obtain ⟨x, hp⟩ := h n (by omega)
    refine ⟨xs ++ [x], by simp [hl], fun i hi => ?_⟩
    by_cases hin : i < n
    · rw [List.getElem_append_left (by omega)]; exact hx i (by omega)
    · have : i = n := by simp at hi; omega
      subst this
      rw [List.getElem_append_right (by omega)]; simpa [hl] using hp
section
variable {H : Type} {enc : TypeId × Value → H} {P : Program} {W : World}
theorem fields_rd {n : Nat} {cs : List Value} {ts : List TypeId} (ih : ∀ t c y, t ∈ ts → DataW.trod enc P W 0 (fun _ => true) true n t c = some y → ∃ d, RdC W Univ d c ∧ HasT P d t) :
    ∀ (fs : List Field) (o : Nat), offs P fs o = some cs.length → (∀ f ∈ fs, f.type ∈ ts) → (∀ f ∈ fs, ∃ y, DataW.trod enc P W 0 (fun _ => true) true n f.type ((cs.drop f.offset).take (P.cellsOf f.type)) = some y) →
      ∃ ds, RdF W Univ ds (cs.drop o) ∧ HasTF P ds (fs.map (·.type))
  | [], o, ho, _, _ => by
    simp only [offs, Option.some.injEq] at ho
    subst ho
    exact ⟨[], by simp [RdF], by simp [HasTF]⟩
  | f :: fs, o, ho, hm, hr => by
    simp only [offs] at ho
    split at ho
    · rename_i hoff
      subst hoff
      obtain ⟨ds, h1, h2⟩ := fields_rd ih fs _ ho (fun g hg => hm g (List.mem_cons_of_mem _ hg)) (fun g hg => hr g (List.mem_cons_of_mem _ hg))
      obtain ⟨y, hy⟩ := hr f List.mem_cons_self
      obtain ⟨d, h3, h4⟩ := ih _ _ _ (hm f List.mem_cons_self) hy
      refine ⟨d :: ds, ?_, by simp only [List.map_cons, HasTF]; exact ⟨h4, h2⟩⟩
      simp only [RdF]
      exact ⟨_, _, by rw [← List.drop_drop]; exact (List.take_append_drop _ _).symm, h3, h1⟩
    · cases ho
theorem trod_rd {ts : List TypeId} (hp : (ts.all (plain1 P ts)) = true) : ∀ (n : Nat) (t : TypeId) (cs : List Value) (y : DataW H × List MemPlace), t ∈ ts → DataW.trod enc P W 0 (fun _ => true) true n t cs = some y → ∃ d, RdC W Univ d cs ∧ HasT P d t := by
  intro n
  induction n with
  | zero => intro t cs y _ h; simp [DataW.trod] at h
  | succ n ih =>
    intro t cs y ht h
    have hpt := List.all_eq_true.1 hp t ht
    unfold plain1 at hpt
    split at hpt
    · rename_i hu
      obtain ⟨b, rfl, _⟩ := DataW.trod_bool hu h
      exact ⟨.bool b, by simp [RdC], by simp [HasT, hu]⟩
    · rename_i k hu
      obtain ⟨b, rfl, _, hw⟩ := DataW.trod_int hu h
      exact ⟨.int k b, by simp [RdC], by simp [HasT, hu, hw]⟩
    · rename_i hu
      obtain ⟨s, rfl, _, hw⟩ := DataW.trod_string hu h
      exact ⟨.str s, by simp [RdC, hw], by simp [HasT, hu, hw]⟩
    · rename_i e hu
      simp only [Bool.and_eq_true, decide_eq_true_eq] at hpt
      have het : e ∈ ts := by simpa using hpt.1
      rcases DataW.trod_slice hu h with ⟨rfl, _⟩ | ⟨a, len, cap, elems, rest, n', hn', rfl, _, _, hlc, hcm, hle, hel, _⟩
      · exact ⟨.lst (P.cellsOf e) [], by simp only [RdC]; exact ⟨none, 0, rfl, by simp, by simp, .inl trivial⟩, by simp only [HasT]; exact ⟨e, hu, rfl, by simp [HasTL]⟩⟩
      · have hnn : n' = n := by omega
        subst hnn
        have each : ∀ i, i < len → ∃ d, (∃ c, c.length = P.cellsOf e ∧ CellsAt W a.block (a.off + i * P.cellsOf e) c ∧ RdC W Univ d c) ∧ HasT P d e := by
          intro i hi
          have h1 := hel i hi
          rw [List.getElem?_eq_getElem (by omega), Option.bind_eq_some_iff] at h1
          obtain ⟨c, hc, hy⟩ := h1
          obtain ⟨d, h2, h3⟩ := ih e c _ het hy
          obtain ⟨_, hlen, hcell⟩ := World.cells?_some hc
          have hoff : ∀ j, W.cell? ((a.add (i * P.cellsOf e)).add j) = none ∨ (a.add (i * P.cellsOf e)).add j = ⟨a.block, a.off + i * P.cellsOf e + j, none⟩ := by
            intro j
            by_cases hsp : (a.add (i * P.cellsOf e)).spot.isSome = true ∧ j = 0
            · left
              obtain ⟨h4, rfl⟩ := hsp
              have : ((a.add (i * P.cellsOf e)).add 0) = a.add (i * P.cellsOf e) := by simp [Addr.add]
              rw [this]
              unfold World.cell?
              split <;> simp [h4]
            · right
              unfold Addr.add at hsp ⊢
              by_cases h0 : i * P.cellsOf e = 0
              · simp only [h0, if_true] at hsp ⊢
                by_cases hj : j = 0
                · subst hj
                  simp at hsp
                  cases a; simp_all
                · simp [hj]
              · simp only [h0, if_false] at hsp ⊢
                by_cases hj : j = 0 <;> simp [hj]
          refine ⟨d, ⟨c, hlen, fun j hj => ?_, h2⟩, h3⟩
          have h5 := hcell j (by omega)
          rw [List.getElem?_eq_getElem hj] at h5
          rcases hoff j with h6 | h6
          · rw [h6] at h5; cases h5
          · rw [h6] at h5; exact h5
        obtain ⟨ds, hdl, hd⟩ := exists_list len each
        refine ⟨.lst (P.cellsOf e) ds, ?_, by simp only [HasT]; exact ⟨e, hu, rfl, hasTL_of ds fun i hi => (hd i hi).2⟩⟩
        simp only [RdC]
        refine ⟨some a, cap, by rw [hdl], by omega, hcm, ?_⟩
        by_cases h0 : len = 0
        · left; exact List.length_eq_zero_iff.1 (by omega)
        · right
          obtain ⟨c, hcl, hc, _⟩ := (hd 0 (by omega)).1
          have hc0 := hc 0 (by omega)
          have hsp : a.spot = none := by
            have h1 := hel 0 (by omega)
            rw [List.getElem?_eq_getElem (by omega), Option.bind_eq_some_iff] at h1
            obtain ⟨c', hc', _⟩ := h1
            have h2 := (World.cells?_some hc').2.2 0 hpt.2
            have h3 := (World.cells?_some hc').2.1
            rw [List.getElem?_eq_getElem (by omega)] at h2
            simp only [Nat.zero_mul, Addr.add, if_true] at h2
            unfold World.cell? at h2
            split at h2
            · split at h2
              · cases h2
              · rename_i hs; simpa using hs
            · cases h2
          have hblk : a.block < W.heap.size := by
            simp only [Nat.zero_mul, Nat.add_zero] at hc0
            unfold World.cell? at hc0
            split at hc0
            · rename_i hq; exact (Array.getElem?_eq_some_iff.1 hq).1
            · cases hc0
          exact ⟨a.block, a.off, by cases a; simp_all, trivial, hblk, RdL.of fun i hi => (hd i hi).1⟩
    · rename_i fs hu
      simp only [Bool.and_eq_true, decide_eq_true_eq, List.all_eq_true] at hpt
      obtain ⟨xs, n', hn', _, hlen, hxl, hfs⟩ := DataW.trod_struct hu h
      have hnn : n' = n := by omega
      subst hnn
      obtain ⟨ds, h1, h2⟩ := fields_rd (cs := cs) ih fs.toList 0 (by rw [hlen]; exact hpt.2) (fun f hf => by simpa using hpt.1 f hf) (fun f hf => by
        obtain ⟨i, hi⟩ := List.getElem?_of_mem hf
        have hi' : fs[i]? = some f := by simpa using hi
        have hil : i < fs.size := (Array.getElem?_eq_some_iff.1 hi').1
        exact ⟨xs[i], by rw [hfs i f hi']; exact List.getElem?_eq_getElem (by omega)⟩)
      exact ⟨.agg ds, by simpa [RdC] using h1, by simp only [HasT]; exact ⟨fs, hu, h2⟩⟩
    · cases hpt
theorem arg_struct {ts : List TypeId} {t : TypeId} {fs : Array Field} {v : Value} {d : DataW H} {ps : List MemPlace} {base : Nat} (hp : (ts.all (plain1 P ts)) = true) (ht : t ∈ ts) (hu : P.underlying t = some (.struct fs)) (hval : Value.okWide P W .any base t v)
    (h : DataW.Trod enc P W 0 (fun _ => true) true t v d ps) : ∃ dd, Rd W Univ dd v ∧ HasT P dd t := by
  obtain ⟨n, h⟩ := h
  obtain ⟨dd, h1, h2⟩ := trod_rd hp n t _ _ ht h
  refine ⟨dd, ⟨_, h1, ?_⟩, h2⟩
  unfold Value.okWide at hval
  rw [hu] at hval
  obtain ⟨cs, rfl, _⟩ := hval
  cases dd with
  | agg xs => simp [asm, Value.cells]
  | bool b => simp [HasT, hu] at h2
  | int k m => simp [HasT, hu] at h2
  | str s => simp [HasT, hu] at h2
  | lst sz xs => simp [HasT, hu] at h2
theorem hasT_strs {t : TypeId} (hs : P.underlying t = some .string) : ∀ xs : List D, HasTL P xs t → ∃ ns : List ByteArray, xs = ns.map D.str
  | [], _ => ⟨[], rfl⟩
  | x :: xs, h => by
    simp only [HasTL] at h
    obtain ⟨ns, rfl⟩ := hasT_strs hs xs h.2
    cases x with
    | str s => exact ⟨s :: ns, rfl⟩
    | bool b => simp [HasT, hs] at h
    | int k m => simp [HasT, hs] at h
    | lst sz xs => simp [HasT, hs] at h
    | agg xs => simp [HasT, hs] at h
theorem hasT_int {t : TypeId} {k : IntKind} (hu : P.underlying t = some (.int k)) : ∀ d : D, HasT P d t → ∃ n, d = .int k n ∧ (Lit.int k n).wf = true
  | .int k' n, h => by simp only [HasT, hu, Option.some.injEq, TypeDesc.int.injEq] at h; obtain ⟨rfl, h⟩ := h; exact ⟨n, rfl, h⟩
  | .bool b, h => by simp [HasT, hu] at h
  | .str s, h => by simp [HasT, hu] at h
  | .lst sz xs, h => by simp [HasT, hu] at h
  | .agg xs, h => by simp [HasT, hu] at h
theorem hasT_lst {t e : TypeId} (hu : P.underlying t = some (.slice e)) : ∀ d : D, HasT P d t → ∃ xs, d = .lst (P.cellsOf e) xs ∧ HasTL P xs e
  | .lst sz xs, h => by
    simp only [HasT, hu, Option.some.injEq, TypeDesc.slice.injEq] at h
    obtain ⟨e', rfl, rfl, h⟩ := h
    exact ⟨xs, rfl, h⟩
  | .bool b, h => by simp [HasT, hu] at h
  | .int k n, h => by simp [HasT, hu] at h
  | .str s, h => by simp [HasT, hu] at h
  | .agg xs, h => by simp [HasT, hu] at h
theorem hasT_agg {t : TypeId} {ts : List TypeId} (hu : ((P.underlying t).bind fun | .struct fs => some (fs.toList.map (·.type)) | _ => none) = some ts) : ∀ d : D, HasT P d t → ∃ xs, d = .agg xs ∧ HasTF P xs ts
  | .agg xs, h => by
    simp only [HasT] at h
    obtain ⟨fs, h1, h2⟩ := h
    rw [h1] at hu
    simp only [Option.bind_some, Option.some.injEq] at hu
    subst hu
    exact ⟨xs, rfl, h2⟩
  | .bool b, h => by simp only [HasT] at h; rw [h] at hu; simp at hu
  | .int k n, h => by simp only [HasT] at h; rw [h.1] at hu; simp at hu
  | .str s, h => by simp only [HasT] at h; rw [h.1] at hu; simp at hu
  | .lst sz xs, h => by simp only [HasT] at h; obtain ⟨e, h1, _⟩ := h; rw [h1] at hu; simp at hu
theorem trodAll_stays (hl : laidOutB P = true) {W' : World} (hb : Below W.heap.size W W') : ∀ (ts : List TypeId) (vs : List Value) (ds : List (DataW H)) (ps : List MemPlace), (∀ t ∈ ts, P.readableRec t = true ∧ t < P.types.size) → (∀ x ∈ ps, x.block < W.heap.size) →
    DataW.TrodAll enc P W 0 (fun _ => true) true ts vs ds ps → DataW.TrodAll enc P W' 0 (fun b => decide (b < W.heap.size)) true ts vs ds ps
  | [], [], [], _, _, _, h => h
  | t :: ts, v :: vs, d :: ds, ps, ht, hlt, h => by
    obtain ⟨p, q, h1, h2, rfl⟩ := h
    exact ⟨p, q, Below.trod hl (ht t List.mem_cons_self).1 (ht t List.mem_cons_self).2 h1 hb (fun x hx => hlt x (List.mem_append_left _ hx)),
      trodAll_stays hl hb ts vs ds q (fun t h => ht t (List.mem_cons_of_mem _ h)) (fun x hx => hlt x (List.mem_append_right _ hx)) h2, rfl⟩
  | [], [], _ :: _, _, _, _, h => h.elim
  | [], _ :: _, _, _, _, _, h => h.elim
  | _ :: _, [], _, _, _, _, h => h.elim
  | _ :: _, _ :: _, [], _, _, _, h => h.elim
theorem law_post {f : Func} {s : ChangeSpec} {W' : World} {args : Array Value} {ds gs : List (DataW H)} {before : List MemPlace} {tb : TypeId} (hl : laidOutB P = true) (hpar : ∀ t ∈ f.params.toList, P.readableRec t = true ∧ t < P.types.size)
    (hvars : s.vars = []) (hrt : f.resultTypes = #[tb]) (hb : P.underlying tb = some .bool) (hfn : s.fn H (ds ++ gs) = { results := [.lit (.bool true)], args := ds })
    (hW : DataW.Whole enc P f.params.toList s.vars false W args.toList ds gs before) (hk : Ext W W') : s.post enc P f false true false false W args (.bool true) W' := by
  have hlt := hW.lt
  have hW' := hW
  obtain ⟨p, q, hA, hV, rfl, hfz, hnd⟩ := hW
  have hbel : Below W.heap.size W W' := ⟨hk.os, hk.tape, hk.output, hk.size, fun k h => hk.block k h trivial⟩
  refine ⟨ds, gs, p ++ q, [], p, [], hW', ?_, ?_, ?_, ?_, fun h => by cases h⟩
  · rw [hfn, hrt]
    exact ⟨[], [], ⟨1, by simp [Value.resultList, Value.cells, DataW.trod, hb]⟩, rfl, rfl⟩
  · rw [hfn]
    exact trodAll_stays hl hbel _ _ _ _ hpar (fun x hx => hlt x (List.mem_append_left _ hx)) hA
  · rw [hfn, hvars]; rfl
  · refine ⟨hk.os, hk.output, fun i hi => ?_⟩
    rw [hk.block i hi trivial]
    cases hq : W.heap[i]? with
    | none => rfl
    | some o => cases o <;> simp
end
end Go.Eng
namespace Go.Eng
open Go.ChangeShapes Go.WideShapes Go.ChangeAt Go.RowKit
structure AuT (P : Program) (tA tN tSs tS : TypeId) : Prop where
  v : ((P.underlying tA).bind fun | .struct fs => some (fs.toList.map (·.type)) | _ => none) = some [tN, tSs]
  n : P.underlying tN = some (.int .i64)
  ss : P.underlying tSs = some (.slice tS)
  s : P.underlying tS = some .string
  c1 : P.cellsOf tS = 1
theorem hasAu {P : Program} {tA tN tSs tS : TypeId} (q : AuT P tA tN tSs tS) (d : D) (h : HasT P d tA) : ∃ a : Au, d = a.d := by
  obtain ⟨xs, rfl, hf⟩ := hasT_agg q.v d h
  match xs, hf with
  | [a, b], hf =>
    simp only [HasTF] at hf
    obtain ⟨ha, hb, -⟩ := hf
    obtain ⟨m, rfl, _⟩ := hasT_int q.n _ ha
    obtain ⟨l, rfl, h1⟩ := hasT_lst q.ss _ hb
    obtain ⟨ns, rfl⟩ := hasT_strs q.s l h1
    exact ⟨⟨m, ns⟩, by simp only [Au.d, strsD, q.c1]⟩
  | [], hf => simp [HasTF] at hf
  | [_], hf => simp [HasTF] at hf
  | _ :: _ :: _ :: _, hf => simp [HasTF] at hf
theorem arg_Au {H : Type} {enc : TypeId × Value → H} {P : Program} {W : World} {tA tN tSs tS : TypeId} (q : AuT P tA tN tSs tS) {ts : List TypeId} {fs : Array Field} {v : Value} {d : DataW H} {ps : List MemPlace} {base : Nat} (hp : (ts.all (plain1 P ts)) = true) (ht : tA ∈ ts) (hu : P.underlying tA = some (.struct fs)) (hval : Value.okWide P W .any base tA v)
    (h : DataW.Trod enc P W 0 (fun _ => true) true tA v d ps) : ∃ a : Au, Rd W Univ a.d v := by
  obtain ⟨dd, h1, h2⟩ := arg_struct hp ht hu hval h
  obtain ⟨a, rfl⟩ := hasAu q dd h2
  exact ⟨a, h1⟩
end Go.Eng
namespace Go.Proofs.Ytnobijngkpflcaa
open Go.Eng Go.ChangeShapes Go.WideShapes Go.ChangeAt Go.RowKit
theorem Try.own : ownKnob Try.prog.godebug = none := by kernel_rfl
theorem Try.laidOut : laidOutB Try.prog = true := by kernel_rfl
theorem aut : AuT Try.prog 27 3 23 9 := ⟨by kernel_rfl, Try.underlying3, Try.underlying23, Try.underlying9, by kernel_rfl⟩
set_option maxRecDepth 100000 in
theorem AuthTells_lifted (os : Os) (started : os.Started) (H : Type) (enc : TypeId × Value → H) :
    ReturnsInHanded {} Try.checked os 10 .any (Rows.authTellsSpec.pre6 enc Try.prog Try.f10 Rows.authTellsRow.domain false) (Rows.authTellsSpec.post enc Try.prog Try.f10 false true false false) := by
  refine returnsInHanded_of_change (C := Try.checked) Try.own started (by kernel_rfl) Try.func10
    (ChangeSpec.witness6 (enc := enc) (C := Try.checked) false ⟨#[], #[.agg #[(.int .i64 (0)), (.slice none 0 0)], .agg #[(.int .i64 (0)), (.slice none 0 0)], (.string (⟨#[]⟩))], []⟩ 8 (by kernel_rfl) (by kernel_rfl) (by kernel_rfl) (by kernel_rfl)) ?_
  intro W base args ds gs before hval0 hW hcnd _
  have hval : ∀ (j : Nat) t v, Try.f10.params[j]? = some t → args[j]? = some v → Value.okWide Try.prog W .any base t v := hval0
  have hW' := hW
  obtain ⟨p, q, hA0, hV, rfl, hfz, hnd⟩ := hW
  have hA : DataW.TrodAll enc Try.prog W 0 (fun _ => true) true Try.f10.params.toList args.toList ds p := hA0
  rw [Try.params10] at hA hval
  obtain ⟨v0, v1, v2, d0, d1, d2, p0, p1, p2, rfl, rfl, rfl, h0, h1, h2⟩ := trodAll_three hA
  obtain ⟨rfl, rfl⟩ := trodVars_none hV
  obtain ⟨x0, r0⟩ := arg_Au aut (ts := [27, 3, 23, 9]) (by kernel_rfl) (by decide) Try.underlying27 (hval 0 27 v0 rfl rfl) h0
  obtain ⟨x1, r1⟩ := arg_Au aut (ts := [27, 3, 23, 9]) (by kernel_rfl) (by decide) Try.underlying27 (hval 1 27 v1 rfl rfl) h1
  obtain ⟨s2, rfl, rfl, rfl, w2⟩ := Go.ChangeMaps.open_string Try.underlying9 (hval 2 9 v2 rfl rfl) h2
  refine (AuthTells_ok x0 x1 s2 w2 W Univ v0 v1 r0 r1).mono fun e W' ⟨v, he, hk, hv⟩ => ?_
  subst hv
  exact ⟨_, he, law_post Try.laidOut (of_decide_eq_true (by kernel_rfl)) rfl (tb := 4) (by kernel_rfl) Try.underlying4 rfl hW' hk⟩
theorem authTells_holds : Rows.AuthTellsSaid :=
  OpenClaim.holds_of_wide 10 Try.f10 rfl rfl rfl rfl rfl rfl rfl ⟨rfl, rfl, rfl, rfl, rfl⟩ rfl rfl rfl rfl rfl (by kernel_rfl) Try.func10 (by kernel_rfl)
    (of_decide_eq_true (by kernel_rfl)) (by unfold Func.isWrapper; first | (rw [if_pos (by decide +kernel)]; kernel_rfl) | (rw [if_neg (by decide +kernel)]; exact ⟨rfl, rfl⟩))
    (fun os started H enc _ => AuthTells_lifted os started H enc)
end Go.Proofs.Ytnobijngkpflcaa
