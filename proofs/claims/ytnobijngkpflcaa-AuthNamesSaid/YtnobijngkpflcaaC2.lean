import Derived.Test.YtnobijngkpflcaaC1
namespace Go.Proofs.Ytnobijngkpflcaa
open Go.Eng
set_option maxRecDepth 100000 in
theorem size_all : ∀ (n : Nat) (xs : List V), V.cnts xs < n → ∀ (deep : Nat), deep ≤ 201 → ∀ (w : World) (S : BSet) (v : Value), Rd w S (valsD xs) v → Calls Try.prog 81 #[v, .int .i64 deep] w (Ret w fun u _ => u = .int .i64 (szL xs deep 0)) := by
  intro n
  induction n with
  | zero => intro xs hx; omega
  | succ n ih =>
  intro xs hx deep hdeep w S v hv
  have hmx : xs.length ≤ maxLen := rd_len hv
  simp only [maxLen] at hmx
  obtain ⟨va, vc, ev, D_v⟩ := rdVs_out (rd_arg hv)
  subst ev
  refine enter Try.func81 rfl Try.ntmps81 (lbr rfl) fun a0 y0 zz0 harg => ?_
  have e0 : sl a0 0 = (.slice va (xs.length) vc) := harg 0 (lbr rfl)
  have e1 : sl a0 1 = (.int .i64 ((deep : Nat))) := harg 1 (lbr rfl)
  have kw := Keeps.refl All w
  clear harg
  refine wp_seq_k fun K1 hK1 => ?_
  refine rg mixed y0 zz0 ?_
  refine .i (sp_assign Has.cst) ?_
  refine .done ⟨by kernel_rfl, fun a2 g W2 y2 zz2 hk hg hV hR hP => ?_⟩
  obtain ⟨-, -⟩ := hV
  replace e0 := (hR 0 rfl).trans e0
  replace e1 := (hR 1 rfl).trans e1
  replace D_v := D_v.ext hk
  replace kw := kw.x hk
  clear hR hk hg hP
  refine tail_nil (hK1 _ _ ?_)
  refine wp_seq_k fun K3 hK3 => ?_
  refine rg mixed y2 zz2 ?_
  refine .i (sp_assign Has.cst) ?_
  refine .done ⟨by kernel_rfl, fun a4 g W4 y4 zz4 hk hg hV hR hP => ?_⟩
  obtain ⟨e5, -⟩ := hV
  replace e0 := (hR 0 rfl).trans e0
  replace e1 := (hR 1 rfl).trans e1
  replace D_v := D_v.ext hk
  have e5 : sl a4 5 = (.int .i64 (0)) := e5
  replace kw := kw.x hk
  clear hR hk hg hP
  refine tail_nil (hK3 _ _ ?_)
  refine wp_seq_k fun K5 hK5 => ?_
  refine wp_seq_k fun K6 hK6 => ?_
  refine rg mixed y4 zz4 ?_
  refine .i (sp_assign Has.cst) ?_
  refine .done ⟨by kernel_rfl, fun a7 g W7 y7 zz7 hk hg hV hR hP => ?_⟩
  obtain ⟨e6, -⟩ := hV
  replace e0 := (hR 0 rfl).trans e0
  replace e1 := (hR 1 rfl).trans e1
  replace e5 := (hR 5 rfl).trans e5
  replace D_v := D_v.ext hk
  have e6 : sl a7 6 = (.int .i64 (0)) := e6
  replace kw := kw.x hk
  clear hR hk hg hP
  refine tail_nil (hK6 _ _ ?_)
  refine wp_block ?_
  refine wp_for (xs.length) (fun k a W => ∃ (n2 : Nat), a.tmps.size = 68 ∧ a.defers = [] ∧ Keeps All w W ∧ sl a 0 = (.slice va (xs.length) vc) ∧ sl a 1 = (.int .i64 ((deep : Nat))) ∧ sl a 5 = (.int .i64 ((n2 : Nat))) ∧ sl a 6 = (.int .i64 ((k : Nat))) ∧ Rd W (SA w S []) (valsD (xs)) (.slice va (xs.length) vc) ∧ (szL xs deep 0 = szL (xs.drop k) deep n2)) ⟨0, y7, zz7, kw, e0, e1, (e5.trans (congrArg (Value.int .i64) (rfl))), (e6.trans (congrArg (Value.int .i64) (rfl))), D_v, rfl⟩ ?_
  clear kw e0 e1 e5 e6 D_v
  rintro k a8 W8 hkk ⟨n2, y8, zz8, kw, e0, e1, e5, e6, D_v, hin⟩
  refine wp_seq_k fun K9 hK9 => ?_
  refine wp_seq_k fun K10 hK10 => ?_
  refine rg mixed y8 zz8 ?_
  refine .i (sp_move (hbs rfl e6)) ?_
  refine .i (sp_move (hbs rfl e0)) ?_
  refine .i (sp_lenVs Try.underlying31 ((hlc rfl).dat D_v sub_all)) ?_
  refine .i (sp_lss (hlc rfl) (hlc rfl)) ?_
  refine .i (sp_move (hlc rfl)) ?_
  refine .e (t := 12) rfl (hlc rfl) (fun hg => sp_move (hbs rfl e5)) ?_
  refine .e (t := 12) rfl (hlc rfl) (fun hg => sp_lss ((hlc rfl).undE hg) Has.cst) ?_
  refine .i (sp_and (hlc rfl) ((hlc rfl).weak fun hq => hq)) ?_
  refine .done ⟨by kernel_rfl, fun a11 g W11 y11 zz11 hk hg hV hR hP => ?_⟩
  obtain ⟨e15, -, -, -, -, -, -, -, -⟩ := hV
  replace e0 := (hR 0 rfl).trans e0
  replace e1 := (hR 1 rfl).trans e1
  replace e5 := (hR 5 rfl).trans e5
  replace e6 := (hR 6 rfl).trans e6
  replace D_v := D_v.ext hk
  replace e15 := e15.q
  replace kw := kw.x hk
  clear hR hk hg hP
  refine tail_nil (hK10 _ _ ?_)
  refine wp_cond_split e15 (fun hc => ?_) (fun hc => ?_)
  ·
   simp at hc
   obtain ⟨hlt, hn2i⟩ := hc
   have hn2 : n2 < 20000 := by omega
   have hdr := List.drop_eq_getElem_cons hlt
   have hce := cnt_elem hlt
   have hcq := cnt_eq xs[k]
   rw [hdr, szL, if_pos hn2] at hin
   have hmn : (xs[k]).ns.length ≤ maxLen := rd_ns hv hlt
   simp only [maxLen] at hmn
   refine wp_skip (hK9 _ _ ?_)
   refine wp_seq_k fun K12 hK12 => ?_
   refine wp_block ?_
   refine wp_seq_k fun K13 hK13 => ?_
   refine rg mixed y11 zz11 ?_
   refine .i (sp_move (hbs rfl e5)) ?_
   refine .i (sp_add (hlc rfl) Has.cst (i64_in (by omega))) ?_
   refine .i (sp_move (hbs rfl e0)) ?_
   refine .i (sp_move (hbs rfl e6)) ?_
   refine .rf (sp_indexV (i := k) ((hlc rfl).dat D_v sub_all) (hlc rfl) Try.underlying31 sz33 rfl hlt) ?_
   refine .rf (X := SA w S []) (e := D.str ((xs[k]'hlt).t)) (sp_fieldV (hlc rfl) Try.underlying33 rfl sz9 rfl rfl) ?_
   refine .i (sp_loadStr (hlc rfl) agg9 sz9) ?_
   refine .i (sp_lenS Try.underlying9 (hlc rfl)) ?_
   refine .i (sp_min Has.cst (hlc rfl)) ?_
   refine .i (sp_add (hlc rfl) (hlc rfl) (i64_in (by omega))) ?_
   refine .i (sp_assign (hlc rfl)) ?_
   refine .done ⟨by kernel_rfl, fun a14 g W14 y14 zz14 hk hg hV hR hP => ?_⟩
   obtain ⟨e5, -, -, -, -, -, -, -, -, -, -, -⟩ := hV
   replace e0 := (hR 0 rfl).trans e0
   replace e1 := (hR 1 rfl).trans e1
   replace e6 := (hR 6 rfl).trans e6
   replace D_v := D_v.ext hk
   replace e5 := e5.q
   replace kw := kw.x hk
   clear hR hk hg hP
   refine tail_nil (hK13 _ _ ?_)
   refine wp_seq_k fun K15 hK15 => ?_
   refine wp_seq_k fun K16 hK16 => ?_
   refine rg mixed y14 zz14 ?_
   refine .i (sp_assign Has.cst) ?_
   refine .done ⟨by kernel_rfl, fun a17 g W17 y17 zz17 hk hg hV hR hP => ?_⟩
   obtain ⟨e7, -⟩ := hV
   replace e0 := (hR 0 rfl).trans e0
   replace e1 := (hR 1 rfl).trans e1
   replace e5 := (hR 5 rfl).trans e5
   replace e6 := (hR 6 rfl).trans e6
   replace D_v := D_v.ext hk
   have e7 : sl a17 7 = (.int .i64 (0)) := e7
   replace kw := kw.x hk
   clear hR hk hg hP
   refine tail_nil (hK16 _ _ ?_)
   refine wp_block ?_
   refine wp_for ((xs[k]'hlt).ns.length) (fun j a W => ∃ (n3 : Nat), a.tmps.size = 68 ∧ a.defers = [] ∧ Keeps All w W ∧ sl a 0 = (.slice va (xs.length) vc) ∧ sl a 1 = (.int .i64 ((deep : Nat))) ∧ sl a 5 = (.int .i64 ((n3 : Nat))) ∧ sl a 6 = (.int .i64 ((k : Nat))) ∧ sl a 7 = (.int .i64 ((j : Nat))) ∧ Rd W (SA w S []) (valsD (xs)) (.slice va (xs.length) vc) ∧ (szN (xs[k]'hlt).ns (n2 + 4 + min 20000 (xs[k]'hlt).t.size) = szN ((xs[k]'hlt).ns.drop j) n3)) ⟨(n2 + 4 + min 20000 (xs[k]'hlt).t.size), y17, zz17, kw, e0, e1, (e5.trans (congrArg (Value.int .i64) (by push_cast; omega))), e6, (e7.trans (congrArg (Value.int .i64) (rfl))), D_v, rfl⟩ ?_
   clear kw e0 e1 e5 e6 e7 D_v
   rintro j a18 W18 hkj ⟨n3, y18, zz18, kw, e0, e1, e5, e6, e7, D_v, hin2⟩
   refine wp_seq_k fun K19 hK19 => ?_
   refine wp_seq_k fun K20 hK20 => ?_
   refine rg mixed y18 zz18 ?_
   refine .i (sp_move (hbs rfl e7)) ?_
   refine .i (sp_move (hbs rfl e0)) ?_
   refine .i (sp_move (hbs rfl e6)) ?_
   refine .rf (sp_indexV (i := k) ((hlc rfl).dat D_v sub_all) (hlc rfl) Try.underlying31 sz33 rfl hlt) ?_
   refine .rf (X := SA w S []) (e := strsD ((xs[k]'hlt).ns)) (sp_fieldV (hlc rfl) Try.underlying33 rfl sz23 rfl rfl) ?_
   refine .da (X := SA w S []) (e := strsD ((xs[k]'hlt).ns)) (sp_loadR (hlc rfl) agg23 sz23 rfl) ?_
   refine .i (sp_lenSs Try.underlying23 (hlc rfl)) ?_
   refine .i (sp_lss (hlc rfl) (hlc rfl)) ?_
   refine .i (sp_move (hlc rfl)) ?_
   refine .e (t := 36) rfl (hlc rfl) (fun hg => sp_move (hbs rfl e5)) ?_
   refine .e (t := 36) rfl (hlc rfl) (fun hg => sp_lss ((hlc rfl).undE hg) Has.cst) ?_
   refine .i (sp_and (hlc rfl) ((hlc rfl).weak fun hq => hq)) ?_
   refine .done ⟨by kernel_rfl, fun a21 g W21 y21 zz21 hk hg hV hR hP => ?_⟩
   obtain ⟨e39, -, -, -, -, -, -, -, -, -, -, -, -⟩ := hV
   replace e0 := (hR 0 rfl).trans e0
   replace e1 := (hR 1 rfl).trans e1
   replace e5 := (hR 5 rfl).trans e5
   replace e6 := (hR 6 rfl).trans e6
   replace e7 := (hR 7 rfl).trans e7
   replace D_v := D_v.ext hk
   replace e39 := e39.q
   replace kw := kw.x hk
   clear hR hk hg hP
   refine tail_nil (hK20 _ _ ?_)
   refine wp_cond_split e39 (fun hc => ?_) (fun hc => ?_)
   ·
    simp at hc
    obtain ⟨hltj, hn3i⟩ := hc
    have hn3 : n3 < 20000 := by omega
    have hdj := List.drop_eq_getElem_cons hltj
    rw [hdj, szN, if_pos hn3] at hin2
    refine wp_skip (hK19 _ _ ?_)
    refine wp_seq_k fun K22 hK22 => ?_
    refine wp_block ?_
    refine rg mixed y21 zz21 ?_
    refine .i (sp_move (hbs rfl e5)) ?_
    refine .i (sp_add (hlc rfl) Has.cst (i64_in (by omega))) ?_
    refine .i (sp_move (hbs rfl e0)) ?_
    refine .i (sp_move (hbs rfl e6)) ?_
    refine .rf (sp_indexV (i := k) ((hlc rfl).dat D_v sub_all) (hlc rfl) Try.underlying31 sz33 rfl hlt) ?_
    refine .rf (X := SA w S []) (e := strsD ((xs[k]'hlt).ns)) (sp_fieldV (hlc rfl) Try.underlying33 rfl sz23 rfl rfl) ?_
    refine .da (X := SA w S []) (e := strsD ((xs[k]'hlt).ns)) (sp_loadR (hlc rfl) agg23 sz23 rfl) ?_
    refine .i (sp_move (hbs rfl e7)) ?_
    refine .rf (sp_indexS (i := j) (hlc rfl) (hlc rfl) Try.underlying23 sz9 rfl hltj) ?_
    refine .i (sp_loadStr (hlc rfl) agg9 sz9) ?_
    refine .i (sp_lenS Try.underlying9 (hlc rfl)) ?_
    refine .i (sp_min Has.cst (hlc rfl)) ?_
    refine .i (sp_add (hlc rfl) (hlc rfl) (i64_in (by omega))) ?_
    refine .i (sp_assign (hlc rfl)) ?_
    refine .done ⟨by kernel_rfl, fun a23 g W23 y23 zz23 hk hg hV hR hP => ?_⟩
    obtain ⟨e5, -, -, -, -, -, -, -, -, -, -, -, -, -, -⟩ := hV
    replace e0 := (hR 0 rfl).trans e0
    replace e1 := (hR 1 rfl).trans e1
    replace e6 := (hR 6 rfl).trans e6
    replace e7 := (hR 7 rfl).trans e7
    replace D_v := D_v.ext hk
    replace e5 := e5.q
    replace kw := kw.x hk
    clear hR hk hg hP
    refine tail_nil (hK22 _ _ ?_)
    refine rg mixed y23 zz23 ?_
    refine .i (sp_move (hbs rfl e7)) ?_
    refine .i (sp_add (hlc rfl) Has.cst (i64_in (by omega))) ?_
    refine .i (sp_assign (hlc rfl)) ?_
    refine .done ⟨by kernel_rfl, fun a24 g W24 y24 zz24 hk hg hV hR hP => ?_⟩
    obtain ⟨e7, -, -, -⟩ := hV
    replace e0 := (hR 0 rfl).trans e0
    replace e1 := (hR 1 rfl).trans e1
    replace e5 := (hR 5 rfl).trans e5
    replace e6 := (hR 6 rfl).trans e6
    replace D_v := D_v.ext hk
    replace e7 := e7.q
    replace kw := kw.x hk
    clear hR hk hg hP
    exact tail_nil ⟨hltj, (n3 + 2 + min 20000 ((xs[k]'hlt).ns[j]'hltj).size), y24, zz24, kw, e0, e1, (e5.trans (congrArg (Value.int .i64) (by push_cast; omega))), e6, (e7.trans (congrArg (Value.int .i64) (by simp))), D_v, hin2⟩
   ·
    have hfn : szN (xs[k]'hlt).ns (n2 + 4 + min 20000 (xs[k]'hlt).t.size) = n3 := by
     rw [hin2]; simp at hc
     by_cases hltj : j < (xs[k]'hlt).ns.length
     · exact szN_big _ (by have := hc hltj; omega)
     · rw [List.drop_eq_nil_of_le (by omega)]; rfl
    have hsv := szV_eq (xs[k]'hlt) deep n2
    rw [hfn] at hsv
    have hs1 := (szN_le (xs[k]'hlt).ns (n2 + 4 + min 20000 (xs[k]'hlt).t.size)).2
    rw [hfn] at hs1
    have hs2 := szL_top (xs[k]'hlt).xs (deep + 1) 0
    refine wp_exit (hK15 _ _ ?_)
    refine wp_seq_k fun K25 hK25 => ?_
    refine wp_seq_k fun K26 hK26 => ?_
    refine rg mixed y21 zz21 ?_
    refine .i (sp_move (hbs rfl e1)) ?_
    refine .i (sp_gtr (hlc rfl) Has.cst) ?_
    refine .done ⟨by kernel_rfl, fun a27 g W27 y27 zz27 hk hg hV hR hP => ?_⟩
    obtain ⟨e56, -, -⟩ := hV
    replace e0 := (hR 0 rfl).trans e0
    replace e1 := (hR 1 rfl).trans e1
    replace e5 := (hR 5 rfl).trans e5
    replace e6 := (hR 6 rfl).trans e6
    replace D_v := D_v.ext hk
    replace e56 := e56.q
    replace kw := kw.x hk
    clear hR hk hg hP
    refine tail_nil (hK26 _ _ ?_)
    refine wp_cond_split e56 (fun hc => ?_) (fun hc => ?_)
    ·
     have hdd : 200 < deep := by have := of_decide_eq_true hc; omega
     rw [if_pos hdd] at hin
     refine wp_seq_k fun K28 hK28 => ?_
     refine rg mixed y27 zz27 ?_
     refine .i (sp_assign Has.cst) ?_
     refine .done ⟨by kernel_rfl, fun a29 g W29 y29 zz29 hk hg hV hR hP => ?_⟩
     obtain ⟨e4, -⟩ := hV
     replace D_v := D_v.ext hk
     have e4 : sl a29 4 = (.int .i64 (20000)) := e4
     replace kw := kw.x hk
     clear hR hk hg hP
     refine tail_nil (hK28 _ _ ?_)
     refine wp_ret ?_
     refine (show bodyPost Try.prog Try.f81 _ .ret _ _ from ret1 rfl zz29 e4 ⟨_, rfl, kw, ?_⟩)
     first | rw [hfin] | (rw [hin]; rfl)
    ·
     have hdd : ¬ 200 < deep := by have := of_decide_eq_false hc; omega
     rw [if_neg hdd, hsv] at hin
     have hs3 := hs2 (by omega)
     refine wp_skip (hK25 _ _ ?_)
     refine rg mixed y27 zz27 ?_
     refine .i (sp_move (hbs rfl e5)) ?_
     refine .i (sp_move (hbs rfl e0)) ?_
     refine .i (sp_move (hbs rfl e6)) ?_
     refine .rf (sp_indexV (i := k) ((hlc rfl).dat D_v sub_all) (hlc rfl) Try.underlying31 sz33 rfl hlt) ?_
     refine .rf (X := SA w S []) (e := valsD ((xs[k]'hlt).xs)) (sp_fieldV (hlc rfl) Try.underlying33 rfl sz31 rfl rfl) ?_
     refine .da (X := SA w S []) (e := valsD ((xs[k]'hlt).xs)) (sp_loadR (hlc rfl) agg31 sz31 rfl) ?_
     refine .i (sp_move (hbs rfl e1)) ?_
     refine .i (sp_add (hlc rfl) Has.cst (i64_in (by omega))) ?_
     refine .i (v := (.int .i64 (szL ((xs[k]'hlt).xs) (deep + 1) 0))) (sp_call2 (φ1 := IsD (SA w S []) (valsD ((xs[k]'hlt).xs))) (φ2 := Is (.int .i64 (((deep : Nat) : Int) + (1 : Int)))) ent81 (hlc rfl) (hlc rfl) (fun g u1 u2 W hk hgk h1 h2 => by have h2 : u2 = _ := h2; subst u2; exact ih ((xs[k]'hlt).xs) (by omega) (deep + 1) (by omega) W _ _ h1)) ?_
     refine .i (sp_add (hlc rfl) (hlc rfl) (i64_in (by omega))) ?_
     refine .i (sp_assign (hlc rfl)) ?_
     refine .done ⟨by kernel_rfl, fun a30 g W30 y30 zz30 hk hg hV hR hP => ?_⟩
     obtain ⟨e5, -, -, -, -, -, -, -, -, -, -, -⟩ := hV
     replace e0 := (hR 0 rfl).trans e0
     replace e1 := (hR 1 rfl).trans e1
     replace e6 := (hR 6 rfl).trans e6
     replace D_v := D_v.ext hk
     replace e5 := e5.q
     replace kw := kw.x hk
     clear hR hk hg hP
     refine tail_nil (hK12 _ _ ?_)
     refine rg mixed y30 zz30 ?_
     refine .i (sp_move (hbs rfl e6)) ?_
     refine .i (sp_add (hlc rfl) Has.cst (i64_in (by omega))) ?_
     refine .i (sp_assign (hlc rfl)) ?_
     refine .done ⟨by kernel_rfl, fun a31 g W31 y31 zz31 hk hg hV hR hP => ?_⟩
     obtain ⟨e6, -, -, -⟩ := hV
     replace e0 := (hR 0 rfl).trans e0
     replace e1 := (hR 1 rfl).trans e1
     replace e5 := (hR 5 rfl).trans e5
     replace D_v := D_v.ext hk
     replace e6 := e6.q
     replace kw := kw.x hk
     clear hR hk hg hP
     exact tail_nil ⟨hlt, (n3 + szL (xs[k]'hlt).xs (deep + 1) 0), y31, zz31, kw, e0, e1, (e5.trans (congrArg (Value.int .i64) (by push_cast; omega))), (e6.trans (congrArg (Value.int .i64) (by simp))), D_v, hin⟩
  ·
   have hfin : szL xs deep 0 = n2 := by
    rw [hin]; simp at hc
    by_cases hlt : k < xs.length
    · exact szL_big _ _ (by have := hc hlt; omega)
    · rw [List.drop_eq_nil_of_le (by omega)]; rfl
   refine wp_exit (hK5 _ _ ?_)
   refine wp_seq_k fun K32 hK32 => ?_
   refine rg mixed y11 zz11 ?_
   refine .i (sp_move (hbs rfl e5)) ?_
   refine .i (sp_assign (hlc rfl)) ?_
   refine .done ⟨by kernel_rfl, fun a33 g W33 y33 zz33 hk hg hV hR hP => ?_⟩
   obtain ⟨e4, -, -⟩ := hV
   replace D_v := D_v.ext hk
   have e4 : sl a33 4 = (.int .i64 ((n2 : Nat))) := e4
   replace kw := kw.x hk
   clear hR hk hg hP
   refine tail_nil (hK32 _ _ ?_)
   refine wp_ret ?_
   refine (show bodyPost Try.prog Try.f81 _ .ret _ _ from ret1 rfl zz33 e4 ⟨_, rfl, kw, ?_⟩)
   first | rw [hfin] | (rw [hin]; rfl)

set_option maxRecDepth 100000 in
theorem Long_ok (xs : List V) (w : World) (S : BSet) (v : Value) (hv : Rd w S (valsD xs) v) : Calls Try.prog 26 #[v] w (Ret w fun u _ => u = .bool (decide (20000 ≤ szL xs 0 0))) := by
  obtain ⟨va, vc, ev, D_v⟩ := rdVs_out (rd_arg hv)
  subst ev
  refine enter Try.func26 rfl Try.ntmps26 (lbr rfl) fun a0 y0 zz0 harg => ?_
  have e0 : sl a0 0 = (.slice va (xs.length) vc) := harg 0 (lbr rfl)
  have kw := Keeps.refl All w
  clear harg
  refine wp_seq_k fun K1 hK1 => ?_
  refine rg mixed y0 zz0 ?_
  refine .i (sp_assign Has.cst) ?_
  refine .done ⟨by kernel_rfl, fun a2 g W2 y2 zz2 hk hg hV hR hP => ?_⟩
  obtain ⟨-, -⟩ := hV
  replace e0 := (hR 0 rfl).trans e0
  replace D_v := D_v.ext hk
  replace kw := kw.x hk
  clear hR hk hg hP
  refine tail_nil (hK1 _ _ ?_)
  refine wp_seq_k fun K3 hK3 => ?_
  refine rg mixed y2 zz2 ?_
  refine .i (sp_move (hbs rfl e0)) ?_
  refine .i (v := (.int .i64 (szL (xs) 0 0))) (sp_call2 (φ1 := IsD (SA w S []) (valsD (xs))) (φ2 := Is (.int .i64 (0))) ent81 ((hlc rfl).dat D_v sub_all) Has.cst (fun g u1 u2 W hk hgk h1 h2 => by have h2 : u2 = _ := h2; subst u2; exact size_all _ (xs) (Nat.lt_succ_self _) 0 (by omega) W _ _ h1)) ?_
  refine .i (sp_geq (hlc rfl) Has.cst) ?_
  refine .i (sp_assign (hlc rfl)) ?_
  refine .done ⟨by kernel_rfl, fun a4 g W4 y4 zz4 hk hg hV hR hP => ?_⟩
  obtain ⟨e2, -, -, -, -⟩ := hV
  replace D_v := D_v.ext hk
  replace e2 := e2.q
  replace kw := kw.x hk
  clear hR hk hg hP
  refine tail_nil (hK3 _ _ ?_)
  refine wp_ret ?_
  refine (show bodyPost Try.prog Try.f26 _ .ret _ _ from ret1 rfl zz4 e2 ⟨_, rfl, kw, ?_⟩)
  congr 1; exact decide_eq_decide.2 (by omega)

set_option maxRecDepth 100000 in
theorem equal_ok (ns ms : List ByteArray) (w : World) (S : BSet) (v u : Value) (hv : Rd w S (strsD ns) v) (hu : Rd w S (strsD ms) u) : Calls Try.prog 127 #[v, u] w (Ret w fun u _ => u = .bool (decide (ns = ms))) := by
  have hl1 := rd_lenS hv
  have hl2 := rd_lenS hu
  simp only [maxLen] at hl1 hl2
  obtain ⟨va, vc, ev, D_v⟩ := rdS_out (rd_arg hv)
  subst ev
  obtain ⟨ua, uc, ev, D_u⟩ := rdS_out (rd_arg hu)
  subst ev
  refine enter Try.func127 rfl Try.ntmps127 (lbr rfl) fun a0 y0 zz0 harg => ?_
  have e0 : sl a0 0 = (.slice va (ns.length) vc) := harg 0 (lbr rfl)
  have e1 : sl a0 1 = (.slice ua (ms.length) uc) := harg 1 (lbr rfl)
  have kw := Keeps.refl All w
  clear harg
  refine wp_seq_k fun K1 hK1 => ?_
  refine rg mixed y0 zz0 ?_
  refine .i (sp_assign Has.cst) ?_
  refine .done ⟨by kernel_rfl, fun a2 g W2 y2 zz2 hk hg hV hR hP => ?_⟩
  obtain ⟨-, -⟩ := hV
  replace e0 := (hR 0 rfl).trans e0
  replace e1 := (hR 1 rfl).trans e1
  replace D_v := D_v.ext hk
  replace D_u := D_u.ext hk
  replace kw := kw.x hk
  clear hR hk hg hP
  refine tail_nil (hK1 _ _ ?_)
  refine wp_seq_k fun K3 hK3 => ?_
  refine wp_seq_k fun K4 hK4 => ?_
  refine rg mixed y2 zz2 ?_
  refine .i (sp_move (hbs rfl e0)) ?_
  refine .i (sp_lenSs Try.underlying23 ((hlc rfl).dat D_v sub_all)) ?_
  refine .i (sp_move (hbs rfl e1)) ?_
  refine .i (sp_lenSs Try.underlying23 ((hlc rfl).dat D_u sub_all)) ?_
  refine .i (sp_neq (hlc rfl) (hlc rfl)) ?_
  refine .done ⟨by kernel_rfl, fun a5 g W5 y5 zz5 hk hg hV hR hP => ?_⟩
  obtain ⟨e10, -, -, -, -, -⟩ := hV
  replace e0 := (hR 0 rfl).trans e0
  replace e1 := (hR 1 rfl).trans e1
  replace D_v := D_v.ext hk
  replace D_u := D_u.ext hk
  replace e10 := e10.q
  replace kw := kw.x hk
  clear hR hk hg hP
  refine tail_nil (hK4 _ _ ?_)
  refine wp_cond_split e10 (fun hc => ?_) (fun hc => ?_)
  ·
   have hfin : decide (ns = ms) = false := decide_eq_false fun h => by subst h; simp at hc
   refine wp_seq_k fun K6 hK6 => ?_
   refine rg mixed y5 zz5 ?_
   refine .i (sp_assign Has.cst) ?_
   refine .done ⟨by kernel_rfl, fun a7 g W7 y7 zz7 hk hg hV hR hP => ?_⟩
   obtain ⟨e4, -⟩ := hV
   replace D_v := D_v.ext hk
   replace D_u := D_u.ext hk
   have e4 : sl a7 4 = (.bool (false)) := e4
   replace kw := kw.x hk
   clear hR hk hg hP
   refine tail_nil (hK6 _ _ ?_)
   refine wp_ret ?_
   refine (show bodyPost Try.prog Try.f127 _ .ret _ _ from ret1 rfl zz7 e4 ⟨_, rfl, kw, ?_⟩)
   rw [hfin]
  ·
   have hll : ns.length = ms.length := by simp at hc; omega
   refine wp_skip (hK3 _ _ ?_)
   refine wp_seq_k fun K8 hK8 => ?_
   refine wp_seq_k fun K9 hK9 => ?_
   refine rg mixed y5 zz5 ?_
   refine .i (sp_move (hbs rfl e0)) ?_
   refine .i (sp_lenSs Try.underlying23 ((hlc rfl).dat D_v sub_all)) ?_
   refine .i (sp_move Has.cst) ?_
   refine .done ⟨by kernel_rfl, fun a10 g W10 y10 zz10 hk hg hV hR hP => ?_⟩
   obtain ⟨e13, e12, -, -⟩ := hV
   replace e0 := (hR 0 rfl).trans e0
   replace e1 := (hR 1 rfl).trans e1
   replace D_v := D_v.ext hk
   replace D_u := D_u.ext hk
   have e12 : sl a10 12 = (.int .i64 (ns.length)) := e12
   have e13 : sl a10 13 = (.int .i64 (0)) := e13
   replace kw := kw.x hk
   clear hR hk hg hP
   refine tail_nil (hK9 _ _ ?_)
   refine wp_block ?_
   refine wp_for (ns.length) (fun k a W => a.tmps.size = 26 ∧ a.defers = [] ∧ Keeps All w W ∧ sl a 0 = (.slice va (ns.length) vc) ∧ sl a 1 = (.slice ua (ms.length) uc) ∧ sl a 12 = (.int .i64 (ns.length)) ∧ sl a 13 = (.int .i64 ((k : Nat))) ∧ Rd W (SA w S []) (strsD (ns)) (.slice va (ns.length) vc) ∧ Rd W (SA w S []) (strsD (ms)) (.slice ua (ms.length) uc) ∧ (∀ i (h1 : i < ns.length) (h2 : i < ms.length), i < k → ns[i] = ms[i])) ⟨y10, zz10, kw, e0, e1, e12, (e13.trans (congrArg (Value.int .i64) (rfl))), D_v, D_u, fun i h1 h2 hi => absurd hi (by omega)⟩ ?_
   clear kw e0 e1 e12 e13 D_v D_u
   rintro k a11 W11 hkk ⟨y11, zz11, kw, e0, e1, e12, e13, D_v, D_u, hinv⟩
   refine wp_seq_k fun K12 hK12 => ?_
   refine rg mixed y11 zz11 ?_
   refine .i (sp_lss (hbs rfl e13) (hbs rfl e12)) ?_
   refine .done ⟨by kernel_rfl, fun a13 g W13 y13 zz13 hk hg hV hR hP => ?_⟩
   obtain ⟨e14, -⟩ := hV
   replace e0 := (hR 0 rfl).trans e0
   replace e1 := (hR 1 rfl).trans e1
   replace e12 := (hR 12 rfl).trans e12
   replace e13 := (hR 13 rfl).trans e13
   replace D_v := D_v.ext hk
   replace D_u := D_u.ext hk
   replace e14 := e14.q
   replace kw := kw.x hk
   clear hR hk hg hP
   refine tail_nil (hK12 _ _ ?_)
   refine wp_seq_k fun K14 hK14 => ?_
   refine wp_cond_split e14 (fun hc => ?_) (fun hc => ?_)
   ·
    have hlt : k < ns.length := by simpa using hc
    refine wp_skip (hK14 _ _ ?_)
    refine wp_seq_k fun K15 hK15 => ?_
    refine wp_block ?_
    refine wp_seq_k fun K16 hK16 => ?_
    refine rg mixed y13 zz13 ?_
    refine .i (sp_move (hbs rfl e13)) ?_
    refine .i (sp_assign (hlc rfl)) ?_
    refine .done ⟨by kernel_rfl, fun a17 g W17 y17 zz17 hk hg hV hR hP => ?_⟩
    obtain ⟨e5, -, -⟩ := hV
    replace e0 := (hR 0 rfl).trans e0
    replace e1 := (hR 1 rfl).trans e1
    replace e12 := (hR 12 rfl).trans e12
    replace e13 := (hR 13 rfl).trans e13
    replace D_v := D_v.ext hk
    replace D_u := D_u.ext hk
    have e5 : sl a17 5 = (.int .i64 ((k : Nat))) := e5
    replace kw := kw.x hk
    clear hR hk hg hP
    refine tail_nil (hK16 _ _ ?_)
    refine wp_seq_k fun K18 hK18 => ?_
    refine rg mixed y17 zz17 ?_
    refine .i (sp_move (hbs rfl e0)) ?_
    refine .i (sp_move (hbs rfl e5)) ?_
    refine .rf (sp_indexS (i := k) ((hlc rfl).dat D_v sub_all) (hlc rfl) Try.underlying23 sz9 rfl hlt) ?_
    refine .i (sp_loadStr (hlc rfl) agg9 sz9) ?_
    refine .i (sp_move (hbs rfl e1)) ?_
    refine .i (sp_move (hbs rfl e5)) ?_
    refine .rf (sp_indexS (i := k) ((hlc rfl).dat D_u sub_all) (hlc rfl) Try.underlying23 sz9 rfl (by omega)) ?_
    refine .i (sp_loadStr (hlc rfl) agg9 sz9) ?_
    refine .i (sp_sNeq (hlc rfl) (hlc rfl)) ?_
    refine .done ⟨by kernel_rfl, fun a19 g W19 y19 zz19 hk hg hV hR hP => ?_⟩
    obtain ⟨e24, -, -, -, -, -, -, -, -, -⟩ := hV
    replace e0 := (hR 0 rfl).trans e0
    replace e1 := (hR 1 rfl).trans e1
    replace e12 := (hR 12 rfl).trans e12
    replace e13 := (hR 13 rfl).trans e13
    replace D_v := D_v.ext hk
    replace D_u := D_u.ext hk
    replace e24 := e24.q
    replace kw := kw.x hk
    clear hR hk hg hP
    refine tail_nil (hK18 _ _ ?_)
    refine wp_cond_split e24 (fun hc => ?_) (fun hc => ?_)
    ·
     have hfin : decide (ns = ms) = false := decide_eq_false fun h => by subst h; simp at hc
     refine wp_seq_k fun K20 hK20 => ?_
     refine rg mixed y19 zz19 ?_
     refine .i (sp_assign Has.cst) ?_
     refine .done ⟨by kernel_rfl, fun a21 g W21 y21 zz21 hk hg hV hR hP => ?_⟩
     obtain ⟨e4, -⟩ := hV
     replace D_v := D_v.ext hk
     replace D_u := D_u.ext hk
     have e4 : sl a21 4 = (.bool (false)) := e4
     replace kw := kw.x hk
     clear hR hk hg hP
     refine tail_nil (hK20 _ _ ?_)
     refine wp_ret ?_
     refine (show bodyPost Try.prog Try.f127 _ .ret _ _ from ret1 rfl zz21 e4 ⟨_, rfl, kw, ?_⟩)
     rw [hfin]
    ·
     have hk1 : ns[k] = ms[k] := by simpa using hc
     refine wp_skip (hK15 _ _ ?_)
     refine rg mixed y19 zz19 ?_
     refine .i (sp_add (hbs rfl e13) Has.cst (i64_in (by omega))) ?_
     refine .i (sp_move (hlc rfl)) ?_
     refine .done ⟨by kernel_rfl, fun a22 g W22 y22 zz22 hk hg hV hR hP => ?_⟩
     obtain ⟨e13, -, -⟩ := hV
     replace e0 := (hR 0 rfl).trans e0
     replace e1 := (hR 1 rfl).trans e1
     replace e12 := (hR 12 rfl).trans e12
     replace D_v := D_v.ext hk
     replace D_u := D_u.ext hk
     replace e13 := e13.q
     replace kw := kw.x hk
     clear hR hk hg hP
     exact tail_nil ⟨hlt, y22, zz22, kw, e0, e1, e12, (e13.trans (congrArg (Value.int .i64) (by simp))), D_v, D_u, fun i h1 h2 hi => by rcases Nat.lt_succ_iff_lt_or_eq.1 hi with h | h; exact hinv i h1 h2 h; subst h; exact hk1⟩
   ·
    have hge0 : ¬ k < ns.length := by simpa using hc
    have hge : k = ns.length := by omega
    have hfin : decide (ns = ms) = true := decide_eq_true (List.ext_getElem hll fun i h1 h2 => hinv i h1 h2 (by omega))
    refine wp_exit (hK8 _ _ ?_)
    refine wp_seq_k fun K23 hK23 => ?_
    refine rg mixed y13 zz13 ?_
    refine .i (sp_assign Has.cst) ?_
    refine .done ⟨by kernel_rfl, fun a24 g W24 y24 zz24 hk hg hV hR hP => ?_⟩
    obtain ⟨e4, -⟩ := hV
    replace D_v := D_v.ext hk
    replace D_u := D_u.ext hk
    have e4 : sl a24 4 = (.bool (true)) := e4
    replace kw := kw.x hk
    clear hR hk hg hP
    refine tail_nil (hK23 _ _ ?_)
    refine wp_ret ?_
    refine (show bodyPost Try.prog Try.f127 _ .ret _ _ from ret1 rfl zz24 e4 ⟨_, rfl, kw, ?_⟩)
    rw [hfin]

set_option maxRecDepth 100000 in
theorem endless_all : ∀ (n : Nat) (xs : List V), V.cnts xs < n → ∀ (level : Int), 0 ≤ level → level + n ≤ 4294967296 → ∀ (nested : Bool) (p : Value) (w : World) (S : BSet) (v : Value), (∀ b o, S b o → Cln o) → Rd w S (valsD xs) v → Above w S xs p →
    Calls Try.prog 137 #[v, .int .i64 level, p, .bool nested] w (Ret w fun u _ => u = .bool false) := by
  intro n
  induction n with
  | zero => intro xs hx; omega
  | succ n ih =>
  intro xs hx level hl0 hl nested p w S v hS hv hab
  have hmx : xs.length ≤ maxLen := rd_len hv
  simp only [maxLen] at hmx
  rcases hab with rfl | ⟨y, hy, hcy⟩
  · skip
    obtain ⟨va, vc, ev, D_v⟩ := rdVs_out (rd_arg hv)
    subst ev
    refine enter Try.func137 rfl Try.ntmps137 (lbr rfl) fun a0 y0 zz0 harg => ?_
    have e0 : sl a0 0 = (.slice va (xs.length) vc) := harg 0 (lbr rfl)
    have e1 : sl a0 1 = (.int .i64 (level)) := harg 1 (lbr rfl)
    have e2 : sl a0 2 = (.pointer none) := harg 2 (lbr rfl)
    have e3 : sl a0 3 = (.bool (nested)) := harg 3 (lbr rfl)
    have kw := Keeps.refl All w
    clear harg
    refine wp_seq_k fun K1 hK1 => ?_
    refine rg mixed y0 zz0 ?_
    refine .i (sp_assign Has.cst) ?_
    refine .done ⟨by kernel_rfl, fun a2 g W2 y2 zz2 hk hg hV hR hP => ?_⟩
    obtain ⟨-, -⟩ := hV
    replace e0 := (hR 0 rfl).trans e0
    replace e1 := (hR 1 rfl).trans e1
    replace e2 := (hR 2 rfl).trans e2
    replace e3 := (hR 3 rfl).trans e3
    replace D_v := D_v.ext hk
    replace kw := kw.x hk
    clear hR hk hg hP
    refine tail_nil (hK1 _ _ ?_)
    refine wp_seq_k fun K3 hK3 => ?_
    refine wp_seq_k fun K4 hK4 => ?_
    refine rg mixed y2 zz2 ?_
    refine .i (sp_move (hbs rfl e0)) ?_
    refine .i (sp_lenVs Try.underlying31 ((hlc rfl).dat D_v sub_all)) ?_
    refine .i (sp_move Has.cst) ?_
    refine .done ⟨by kernel_rfl, fun a5 g W5 y5 zz5 hk hg hV hR hP => ?_⟩
    obtain ⟨e14, e13, -, -⟩ := hV
    replace e0 := (hR 0 rfl).trans e0
    replace e1 := (hR 1 rfl).trans e1
    replace e2 := (hR 2 rfl).trans e2
    replace e3 := (hR 3 rfl).trans e3
    replace D_v := D_v.ext hk
    have e13 : sl a5 13 = (.int .i64 (xs.length)) := e13
    have e14 : sl a5 14 = (.int .i64 (0)) := e14
    replace kw := kw.x hk
    clear hR hk hg hP
    refine tail_nil (hK4 _ _ ?_)
    refine wp_block ?_
    refine wp_for (xs.length) (fun k a W => a.tmps.size = 55 ∧ a.defers = [] ∧ Keeps All w W ∧ sl a 0 = (.slice va (xs.length) vc) ∧ sl a 1 = (.int .i64 (level)) ∧ sl a 2 = (.pointer none) ∧ sl a 3 = (.bool (nested)) ∧ sl a 13 = (.int .i64 (xs.length)) ∧ sl a 14 = (.int .i64 ((k : Nat))) ∧ Rd W (SA w S []) (valsD (xs)) (.slice va (xs.length) vc)) ⟨y5, zz5, kw, e0, e1, e2, e3, e13, (e14.trans (congrArg (Value.int .i64) (rfl))), D_v⟩ ?_
    clear kw e0 e1 e2 e3 e13 e14 D_v
    rintro k a6 W6 hkk ⟨y6, zz6, kw, e0, e1, e2, e3, e13, e14, D_v⟩
    refine wp_seq_k fun K7 hK7 => ?_
    refine rg mixed y6 zz6 ?_
    refine .i (sp_lss (hbs rfl e14) (hbs rfl e13)) ?_
    refine .done ⟨by kernel_rfl, fun a8 g W8 y8 zz8 hk hg hV hR hP => ?_⟩
    obtain ⟨e15, -⟩ := hV
    replace e0 := (hR 0 rfl).trans e0
    replace e1 := (hR 1 rfl).trans e1
    replace e2 := (hR 2 rfl).trans e2
    replace e3 := (hR 3 rfl).trans e3
    replace e13 := (hR 13 rfl).trans e13
    replace e14 := (hR 14 rfl).trans e14
    replace D_v := D_v.ext hk
    replace e15 := e15.q
    replace kw := kw.x hk
    clear hR hk hg hP
    refine tail_nil (hK7 _ _ ?_)
    refine wp_seq_k fun K9 hK9 => ?_
    refine wp_cond_split e15 (fun hc => ?_) (fun hc => ?_)
    ·
     have hlt : k < xs.length := by simpa using hc
     have hce := cnt_elem hlt
     have hcq := cnt_eq xs[k]
     refine wp_skip (hK9 _ _ ?_)
     refine wp_seq_k fun K10 hK10 => ?_
     refine wp_block ?_
     refine wp_seq_k fun K11 hK11 => ?_
     refine rg mixed y8 zz8 ?_
     refine .i (sp_move (hbs rfl e14)) ?_
     refine .i (sp_assign (hlc rfl)) ?_
     refine .done ⟨by kernel_rfl, fun a12 g W12 y12 zz12 hk hg hV hR hP => ?_⟩
     obtain ⟨e9, -, -⟩ := hV
     replace e0 := (hR 0 rfl).trans e0
     replace e1 := (hR 1 rfl).trans e1
     replace e2 := (hR 2 rfl).trans e2
     replace e3 := (hR 3 rfl).trans e3
     replace e13 := (hR 13 rfl).trans e13
     replace e14 := (hR 14 rfl).trans e14
     replace D_v := D_v.ext hk
     have e9 : sl a12 9 = (.int .i64 ((k : Nat))) := e9
     replace kw := kw.x hk
     clear hR hk hg hP
     refine tail_nil (hK11 _ _ ?_)
     refine wp_seq_k fun K13 hK13 => ?_
     refine rg mixed y12 zz12 ?_
     refine .i (sp_move (hbs rfl e0)) ?_
     refine .i (sp_move (hbs rfl e9)) ?_
     refine .rf (sp_indexV (i := k) ((hlc rfl).dat D_v sub_all) (hlc rfl) Try.underlying31 sz33 rfl hlt) ?_
     refine .rf (X := SA w S []) (e := V.d (xs[k]'hlt)) (sp_assign (hlc rfl)) ?_
     refine .done ⟨by kernel_rfl, fun a14 g W14 y14 zz14 hk hg hV hR hP => ?_⟩
     obtain ⟨e10, -, -, -, -⟩ := hV
     replace e0 := (hR 0 rfl).trans e0
     replace e1 := (hR 1 rfl).trans e1
     replace e2 := (hR 2 rfl).trans e2
     replace e3 := (hR 3 rfl).trans e3
     replace e13 := (hR 13 rfl).trans e13
     replace e14 := (hR 14 rfl).trans e14
     replace D_v := D_v.ext hk
     obtain ⟨v10_14, ev⟩ : ∃ v, sl a14 10 = v := ⟨_, rfl⟩
     rw [ev] at e10
     have D_v10_14 : Ref W14 (SA w S []) (V.d (xs[k]'hlt)) v10_14 := rsa_end e10 hk [] in_nil
     replace e10 := ev; clear ev
     replace kw := kw.x hk
     clear hR hk hg hP
     refine tail_nil (hK13 _ _ ?_)
     refine wp_seq_k fun K15 hK15 => ?_
     refine wp_seq_k fun K16 hK16 => ?_
     refine rg mixed y14 zz14 ?_
     refine .i (sp_move (hbs rfl e3)) ?_
     refine .i (sp_move (hlc rfl)) ?_
     refine .e (t := 21) rfl (hlc rfl) (fun hg => sp_move (hbs rfl e10)) ?_
     refine .opE (t := 21) (φ := IsR (SA w S []) (V.d (xs[k]'hlt))) rfl (hlc rfl) (st_r sub_all) (fun hg => sp_nilR (((hlc rfl).undE hg).refd D_v10_14 sub_all)) ?_
     refine .opE (t := 21) (φ := IsR (SA w S []) (D.int .u8 ((xs[k]'hlt).k))) rfl (hlc rfl) (st_r sub_all) (fun hg => sp_fieldV ((hlc rfl).undE hg) Try.underlying33 rfl sz5 rfl rfl) ?_
     refine .e (t := 21) rfl (hlc rfl) (fun hg => sp_loadInt ((hlc rfl).undE hg) agg5 sz5) ?_
     refine .e (t := 21) rfl (hlc rfl) (fun hg => sp_neq ((hlc rfl).undE hg) Has.cst) ?_
     refine .i (sp_and (hlc rfl) ((hlc rfl).weak fun hq => hq)) ?_
     refine .i (sp_move (hlc rfl)) ?_
     refine .e (t := 28) rfl (hlc rfl) (fun hg => sp_move (hbs rfl e10)) ?_
     refine .opE (t := 28) (φ := IsR (SA w S []) (V.d (xs[k]'hlt))) rfl (hlc rfl) (st_r sub_all) (fun hg => sp_nilR (((hlc rfl).undE hg).refd D_v10_14 sub_all)) ?_
     refine .opE (t := 28) (φ := IsR (SA w S []) (D.int .u8 ((xs[k]'hlt).k))) rfl (hlc rfl) (st_r sub_all) (fun hg => sp_fieldV ((hlc rfl).undE hg) Try.underlying33 rfl sz5 rfl rfl) ?_
     refine .e (t := 28) rfl (hlc rfl) (fun hg => sp_loadInt ((hlc rfl).undE hg) agg5 sz5) ?_
     refine .e (t := 28) rfl (hlc rfl) (fun hg => sp_neq ((hlc rfl).undE hg) Has.cst) ?_
     refine .i (sp_and (hlc rfl) ((hlc rfl).weak fun hq => hq)) ?_
     refine .done ⟨by kernel_rfl, fun a17 g W17 y17 zz17 hk hg hV hR hP => ?_⟩
     obtain ⟨e34, -, -, -, -, -, -, -, -, -, -, -, -, -, -, -⟩ := hV
     replace e0 := (hR 0 rfl).trans e0
     replace e1 := (hR 1 rfl).trans e1
     replace e2 := (hR 2 rfl).trans e2
     replace e3 := (hR 3 rfl).trans e3
     replace e13 := (hR 13 rfl).trans e13
     replace e14 := (hR 14 rfl).trans e14
     replace e10 := (hR 10 rfl).trans e10
     replace D_v := D_v.ext hk
     replace D_v10_14 := D_v10_14.ext hk
     replace e34 := e34.q
     replace kw := kw.x hk
     clear hR hk hg hP
     refine tail_nil (hK16 _ _ ?_)
     refine wp_cond_split e34 (fun hc => ?_) (fun hc => ?_)
     ·
      refine wp_exit (hK10 _ _ ?_)
      refine rg mixed y17 zz17 ?_
      refine .i (sp_add (hbs rfl e14) Has.cst (i64_in (by omega))) ?_
      refine .i (sp_move (hlc rfl)) ?_
      refine .done ⟨by kernel_rfl, fun a18 g W18 y18 zz18 hk hg hV hR hP => ?_⟩
      obtain ⟨e14, -, -⟩ := hV
      replace e0 := (hR 0 rfl).trans e0
      replace e1 := (hR 1 rfl).trans e1
      replace e2 := (hR 2 rfl).trans e2
      replace e3 := (hR 3 rfl).trans e3
      replace e13 := (hR 13 rfl).trans e13
      replace D_v := D_v.ext hk
      replace D_v10_14 := D_v10_14.ext hk
      replace e14 := e14.q
      replace kw := kw.x hk
      clear hR hk hg hP
      exact tail_nil ⟨hlt, y18, zz18, kw, e0, e1, e2, e3, e13, (e14.trans (congrArg (Value.int .i64) (by simp))), D_v⟩
     ·
      refine wp_skip (hK15 _ _ ?_)
      refine wp_seq_k fun K19 hK19 => ?_
      refine wp_seq_k fun K20 hK20 => ?_
      refine rg mixed y17 zz17 ?_
      refine .i (sp_move (hbs rfl e10)) ?_
      refine .i (sp_move (hbs rfl e2)) ?_
      refine .i (v := (.bool (false))) (sp_refNil Try.underlying186 ((hlc rfl).refd D_v10_14 sub_all) (hlc rfl)) ?_
      refine .done ⟨by kernel_rfl, fun a21 g W21 y21 zz21 hk hg hV hR hP => ?_⟩
      obtain ⟨e37, -, -, -⟩ := hV
      replace e0 := (hR 0 rfl).trans e0
      replace e1 := (hR 1 rfl).trans e1
      replace e2 := (hR 2 rfl).trans e2
      replace e3 := (hR 3 rfl).trans e3
      replace e13 := (hR 13 rfl).trans e13
      replace e14 := (hR 14 rfl).trans e14
      replace e10 := (hR 10 rfl).trans e10
      replace D_v := D_v.ext hk
      replace D_v10_14 := D_v10_14.ext hk
      have e37 : sl a21 37 = (.bool (false)) := e37
      replace kw := kw.x hk
      clear hR hk hg hP
      refine tail_nil (hK20 _ _ ?_)
      refine wp_cond_false e37 ?_
      refine wp_skip (hK19 _ _ ?_)
      refine wp_seq_k fun K22 hK22 => ?_
      refine rg mixed y21 zz21 ?_
      refine .i (sp_move (hbs rfl e2)) ?_
      refine .i (sp_assign (hlc rfl)) ?_
      refine .done ⟨by kernel_rfl, fun a23 g W23 y23 zz23 hk hg hV hR hP => ?_⟩
      obtain ⟨e11, -, -⟩ := hV
      replace e0 := (hR 0 rfl).trans e0
      replace e1 := (hR 1 rfl).trans e1
      replace e2 := (hR 2 rfl).trans e2
      replace e3 := (hR 3 rfl).trans e3
      replace e13 := (hR 13 rfl).trans e13
      replace e14 := (hR 14 rfl).trans e14
      replace e10 := (hR 10 rfl).trans e10
      replace D_v := D_v.ext hk
      replace D_v10_14 := D_v10_14.ext hk
      have e11 : sl a23 11 = (.pointer none) := e11
      replace kw := kw.x hk
      clear hR hk hg hP
      refine tail_nil (hK22 _ _ ?_)
      refine wp_seq_k fun K24 hK24 => ?_
      refine wp_seq_k fun K25 hK25 => ?_
      refine rg mixed y23 zz23 ?_
      refine .i (sp_move (hbs rfl e1)) ?_
      refine .i (sp_move (hbs rfl e1)) ?_
      refine .i (sp_sub (hlc rfl) Has.cst (i64_in (by omega))) ?_
      refine .i (sp_band (hlc rfl) (hlc rfl)) ?_
      refine .i (sp_eql (hlc rfl) Has.cst) ?_
      refine .done ⟨by kernel_rfl, fun a26 g W26 y26 zz26 hk hg hV hR hP => ?_⟩
      obtain ⟨e43, -, -, -, -, -⟩ := hV
      replace e0 := (hR 0 rfl).trans e0
      replace e1 := (hR 1 rfl).trans e1
      replace e2 := (hR 2 rfl).trans e2
      replace e3 := (hR 3 rfl).trans e3
      replace e13 := (hR 13 rfl).trans e13
      replace e14 := (hR 14 rfl).trans e14
      replace e10 := (hR 10 rfl).trans e10
      replace e11 := (hR 11 rfl).trans e11
      replace D_v := D_v.ext hk
      replace D_v10_14 := D_v10_14.ext hk
      replace e43 := e43.q
      replace kw := kw.x hk
      clear hR hk hg hP
      refine tail_nil (hK25 _ _ ?_)
      refine wp_cond_split e43 (fun hc => ?_) (fun hc => ?_)
      ·
       refine rg mixed y26 zz26 ?_
       refine .i (sp_move (hbs rfl e10)) ?_
       refine .i (sp_assign (hlc rfl)) ?_
       refine .done ⟨by kernel_rfl, fun a27 g W27 y27 zz27 hk hg hV hR hP => ?_⟩
       obtain ⟨e11, -, -⟩ := hV
       replace e0 := (hR 0 rfl).trans e0
       replace e1 := (hR 1 rfl).trans e1
       replace e2 := (hR 2 rfl).trans e2
       replace e3 := (hR 3 rfl).trans e3
       replace e13 := (hR 13 rfl).trans e13
       replace e14 := (hR 14 rfl).trans e14
       replace e10 := (hR 10 rfl).trans e10
       replace D_v := D_v.ext hk
       replace D_v10_14 := D_v10_14.ext hk
       have e11 : sl a27 11 = v10_14 := e11
       replace kw := kw.x hk
       clear hR hk hg hP
       refine tail_nil (hK24 _ _ ?_)
       refine wp_seq_k fun K28 hK28 => ?_
       refine rg mixed y27 zz27 ?_
       refine .i (sp_move (hbs rfl e10)) ?_
       refine .rf (sp_nilR ((hlc rfl).refd D_v10_14 sub_all)) ?_
       refine .rf (X := SA w S []) (e := valsD ((xs[k]'hlt).xs)) (sp_fieldV (hlc rfl) Try.underlying33 rfl sz31 rfl rfl) ?_
       refine .da (X := SA w S []) (e := valsD ((xs[k]'hlt).xs)) (sp_loadR (hlc rfl) agg31 sz31 rfl) ?_
       refine .i (sp_move (hbs rfl e1)) ?_
       refine .i (sp_add (hlc rfl) Has.cst (i64_in (by omega))) ?_
       refine .i (sp_move (hbs rfl e11)) ?_
       refine .i (sp_move (hbs rfl e3)) ?_
       refine .i (v := (.bool (false))) (sp_call4 (φ1 := IsD (SA w S []) (valsD ((xs[k]'hlt).xs))) (φ2 := Is (.int .i64 ((level : Int) + (1 : Int)))) (φ3 := IsR (SA w S []) (V.d (xs[k]'hlt))) (φ4 := Is (.bool (nested))) ent137 (hlc rfl) (hlc rfl) ((hlc rfl).refd D_v10_14 sub_all) (hlc rfl) (fun g u1 u2 u3 u4 W hk hgk h1 h2 h3 h4 => by have h2 : u2 = _ := h2; subst u2; have h4 : u4 = _ := h4; subst u4; exact ih ((xs[k]'hlt).xs) (by omega) ((level : Int) + (1 : Int)) (by omega) (by omega) (nested) _ W _ _ (fun b o h => sa_cln hS b o h.1) h1 (Or.inr ⟨_, h3, by omega⟩))) ?_
       refine .done ⟨by kernel_rfl, fun a29 g W29 y29 zz29 hk hg hV hR hP => ?_⟩
       obtain ⟨e53, -, -, -, -, -, -, -, -, -⟩ := hV
       replace e0 := (hR 0 rfl).trans e0
       replace e1 := (hR 1 rfl).trans e1
       replace e2 := (hR 2 rfl).trans e2
       replace e3 := (hR 3 rfl).trans e3
       replace e13 := (hR 13 rfl).trans e13
       replace e14 := (hR 14 rfl).trans e14
       replace D_v := D_v.ext hk
       replace D_v10_14 := D_v10_14.ext hk
       have e53 : sl a29 53 = (.bool (false)) := e53
       replace kw := kw.x hk
       clear hR hk hg hP
       refine tail_nil (hK28 _ _ ?_)
       refine wp_cond_false e53 ?_
       refine wp_skip (hK10 _ _ ?_)
       refine rg mixed y29 zz29 ?_
       refine .i (sp_add (hbs rfl e14) Has.cst (i64_in (by omega))) ?_
       refine .i (sp_move (hlc rfl)) ?_
       refine .done ⟨by kernel_rfl, fun a30 g W30 y30 zz30 hk hg hV hR hP => ?_⟩
       obtain ⟨e14, -, -⟩ := hV
       replace e0 := (hR 0 rfl).trans e0
       replace e1 := (hR 1 rfl).trans e1
       replace e2 := (hR 2 rfl).trans e2
       replace e3 := (hR 3 rfl).trans e3
       replace e13 := (hR 13 rfl).trans e13
       replace D_v := D_v.ext hk
       replace e14 := e14.q
       replace kw := kw.x hk
       clear hR hk hg hP
       exact tail_nil ⟨hlt, y30, zz30, kw, e0, e1, e2, e3, e13, (e14.trans (congrArg (Value.int .i64) (by simp))), D_v⟩
      ·
       refine wp_skip (hK24 _ _ ?_)
       refine wp_seq_k fun K31 hK31 => ?_
       refine rg mixed y26 zz26 ?_
       refine .i (sp_move (hbs rfl e10)) ?_
       refine .rf (sp_nilR ((hlc rfl).refd D_v10_14 sub_all)) ?_
       refine .rf (X := SA w S []) (e := valsD ((xs[k]'hlt).xs)) (sp_fieldV (hlc rfl) Try.underlying33 rfl sz31 rfl rfl) ?_
       refine .da (X := SA w S []) (e := valsD ((xs[k]'hlt).xs)) (sp_loadR (hlc rfl) agg31 sz31 rfl) ?_
       refine .i (sp_move (hbs rfl e1)) ?_
       refine .i (sp_add (hlc rfl) Has.cst (i64_in (by omega))) ?_
       refine .i (sp_move (hbs rfl e11)) ?_
       refine .i (sp_move (hbs rfl e3)) ?_
       refine .i (v := (.bool (false))) (sp_call4 (φ1 := IsD (SA w S []) (valsD ((xs[k]'hlt).xs))) (φ2 := Is (.int .i64 ((level : Int) + (1 : Int)))) (φ3 := Is (.pointer none)) (φ4 := Is (.bool (nested))) ent137 (hlc rfl) (hlc rfl) (hlc rfl) (hlc rfl) (fun g u1 u2 u3 u4 W hk hgk h1 h2 h3 h4 => by have h2 : u2 = _ := h2; subst u2; have h3 : u3 = _ := h3; subst u3; have h4 : u4 = _ := h4; subst u4; exact ih ((xs[k]'hlt).xs) (by omega) ((level : Int) + (1 : Int)) (by omega) (by omega) (nested) _ W _ _ (fun b o h => sa_cln hS b o h.1) h1 (Or.inl rfl))) ?_
       refine .done ⟨by kernel_rfl, fun a32 g W32 y32 zz32 hk hg hV hR hP => ?_⟩
       obtain ⟨e53, -, -, -, -, -, -, -, -, -⟩ := hV
       replace e0 := (hR 0 rfl).trans e0
       replace e1 := (hR 1 rfl).trans e1
       replace e2 := (hR 2 rfl).trans e2
       replace e3 := (hR 3 rfl).trans e3
       replace e13 := (hR 13 rfl).trans e13
       replace e14 := (hR 14 rfl).trans e14
       replace D_v := D_v.ext hk
       replace D_v10_14 := D_v10_14.ext hk
       have e53 : sl a32 53 = (.bool (false)) := e53
       replace kw := kw.x hk
       clear hR hk hg hP
       refine tail_nil (hK31 _ _ ?_)
       refine wp_cond_false e53 ?_
       refine wp_skip (hK10 _ _ ?_)
       refine rg mixed y32 zz32 ?_
       refine .i (sp_add (hbs rfl e14) Has.cst (i64_in (by omega))) ?_
       refine .i (sp_move (hlc rfl)) ?_
       refine .done ⟨by kernel_rfl, fun a33 g W33 y33 zz33 hk hg hV hR hP => ?_⟩
       obtain ⟨e14, -, -⟩ := hV
       replace e0 := (hR 0 rfl).trans e0
       replace e1 := (hR 1 rfl).trans e1
       replace e2 := (hR 2 rfl).trans e2
       replace e3 := (hR 3 rfl).trans e3
       replace e13 := (hR 13 rfl).trans e13
       replace D_v := D_v.ext hk
       replace e14 := e14.q
       replace kw := kw.x hk
       clear hR hk hg hP
       exact tail_nil ⟨hlt, y33, zz33, kw, e0, e1, e2, e3, e13, (e14.trans (congrArg (Value.int .i64) (by simp))), D_v⟩
    ·
     have hge0 : ¬ k < xs.length := by simpa using hc
     have hge : k = xs.length := by omega
     refine wp_exit (hK3 _ _ ?_)
     refine wp_seq_k fun K34 hK34 => ?_
     refine rg mixed y8 zz8 ?_
     refine .i (sp_assign Has.cst) ?_
     refine .done ⟨by kernel_rfl, fun a35 g W35 y35 zz35 hk hg hV hR hP => ?_⟩
     obtain ⟨e8, -⟩ := hV
     replace D_v := D_v.ext hk
     have e8 : sl a35 8 = (.bool (false)) := e8
     replace kw := kw.x hk
     clear hR hk hg hP
     refine tail_nil (hK34 _ _ ?_)
     refine wp_ret ?_
     refine (show bodyPost Try.prog Try.f137 _ .ret _ _ from ret1 rfl zz35 e8 ⟨_, rfl, kw, ?_⟩)
     exact rfl
  · skip
    obtain ⟨va, vc, ev, D_v⟩ := rdVs_out (rd_arg hv)
    subst ev
    have D_p := ref_arg hy
    refine enter Try.func137 rfl Try.ntmps137 (lbr rfl) fun a0 y0 zz0 harg => ?_
    have e0 : sl a0 0 = (.slice va (xs.length) vc) := harg 0 (lbr rfl)
    have e1 : sl a0 1 = (.int .i64 (level)) := harg 1 (lbr rfl)
    have e2 : sl a0 2 = p := harg 2 (lbr rfl)
    have e3 : sl a0 3 = (.bool (nested)) := harg 3 (lbr rfl)
    have kw := Keeps.refl All w
    clear harg
    refine wp_seq_k fun K1 hK1 => ?_
    refine rg mixed y0 zz0 ?_
    refine .i (sp_assign Has.cst) ?_
    refine .done ⟨by kernel_rfl, fun a2 g W2 y2 zz2 hk hg hV hR hP => ?_⟩
    obtain ⟨-, -⟩ := hV
    replace e0 := (hR 0 rfl).trans e0
    replace e1 := (hR 1 rfl).trans e1
    replace e2 := (hR 2 rfl).trans e2
    replace e3 := (hR 3 rfl).trans e3
    replace D_v := D_v.ext hk
    replace D_p := D_p.ext hk
    replace kw := kw.x hk
    clear hR hk hg hP
    refine tail_nil (hK1 _ _ ?_)
    refine wp_seq_k fun K3 hK3 => ?_
    refine wp_seq_k fun K4 hK4 => ?_
    refine rg mixed y2 zz2 ?_
    refine .i (sp_move (hbs rfl e0)) ?_
    refine .i (sp_lenVs Try.underlying31 ((hlc rfl).dat D_v sub_all)) ?_
    refine .i (sp_move Has.cst) ?_
    refine .done ⟨by kernel_rfl, fun a5 g W5 y5 zz5 hk hg hV hR hP => ?_⟩
    obtain ⟨e14, e13, -, -⟩ := hV
    replace e0 := (hR 0 rfl).trans e0
    replace e1 := (hR 1 rfl).trans e1
    replace e2 := (hR 2 rfl).trans e2
    replace e3 := (hR 3 rfl).trans e3
    replace D_v := D_v.ext hk
    replace D_p := D_p.ext hk
    have e13 : sl a5 13 = (.int .i64 (xs.length)) := e13
    have e14 : sl a5 14 = (.int .i64 (0)) := e14
    replace kw := kw.x hk
    clear hR hk hg hP
    refine tail_nil (hK4 _ _ ?_)
    refine wp_block ?_
    refine wp_for (xs.length) (fun k a W => a.tmps.size = 55 ∧ a.defers = [] ∧ Keeps All w W ∧ sl a 0 = (.slice va (xs.length) vc) ∧ sl a 1 = (.int .i64 (level)) ∧ sl a 2 = p ∧ sl a 3 = (.bool (nested)) ∧ sl a 13 = (.int .i64 (xs.length)) ∧ sl a 14 = (.int .i64 ((k : Nat))) ∧ Rd W (SA w S []) (valsD (xs)) (.slice va (xs.length) vc) ∧ Ref W (SA w S []) (V.d (y)) p) ⟨y5, zz5, kw, e0, e1, e2, e3, e13, (e14.trans (congrArg (Value.int .i64) (rfl))), D_v, D_p⟩ ?_
    clear kw e0 e1 e2 e3 e13 e14 D_v D_p
    rintro k a6 W6 hkk ⟨y6, zz6, kw, e0, e1, e2, e3, e13, e14, D_v, D_p⟩
    refine wp_seq_k fun K7 hK7 => ?_
    refine rg mixed y6 zz6 ?_
    refine .i (sp_lss (hbs rfl e14) (hbs rfl e13)) ?_
    refine .done ⟨by kernel_rfl, fun a8 g W8 y8 zz8 hk hg hV hR hP => ?_⟩
    obtain ⟨e15, -⟩ := hV
    replace e0 := (hR 0 rfl).trans e0
    replace e1 := (hR 1 rfl).trans e1
    replace e2 := (hR 2 rfl).trans e2
    replace e3 := (hR 3 rfl).trans e3
    replace e13 := (hR 13 rfl).trans e13
    replace e14 := (hR 14 rfl).trans e14
    replace D_v := D_v.ext hk
    replace D_p := D_p.ext hk
    replace e15 := e15.q
    replace kw := kw.x hk
    clear hR hk hg hP
    refine tail_nil (hK7 _ _ ?_)
    refine wp_seq_k fun K9 hK9 => ?_
    refine wp_cond_split e15 (fun hc => ?_) (fun hc => ?_)
    ·
     have hlt : k < xs.length := by simpa using hc
     have hce := cnt_elem hlt
     have hcq := cnt_eq xs[k]
     refine wp_skip (hK9 _ _ ?_)
     refine wp_seq_k fun K10 hK10 => ?_
     refine wp_block ?_
     refine wp_seq_k fun K11 hK11 => ?_
     refine rg mixed y8 zz8 ?_
     refine .i (sp_move (hbs rfl e14)) ?_
     refine .i (sp_assign (hlc rfl)) ?_
     refine .done ⟨by kernel_rfl, fun a12 g W12 y12 zz12 hk hg hV hR hP => ?_⟩
     obtain ⟨e9, -, -⟩ := hV
     replace e0 := (hR 0 rfl).trans e0
     replace e1 := (hR 1 rfl).trans e1
     replace e2 := (hR 2 rfl).trans e2
     replace e3 := (hR 3 rfl).trans e3
     replace e13 := (hR 13 rfl).trans e13
     replace e14 := (hR 14 rfl).trans e14
     replace D_v := D_v.ext hk
     replace D_p := D_p.ext hk
     have e9 : sl a12 9 = (.int .i64 ((k : Nat))) := e9
     replace kw := kw.x hk
     clear hR hk hg hP
     refine tail_nil (hK11 _ _ ?_)
     refine wp_seq_k fun K13 hK13 => ?_
     refine rg mixed y12 zz12 ?_
     refine .i (sp_move (hbs rfl e0)) ?_
     refine .i (sp_move (hbs rfl e9)) ?_
     refine .rf (sp_indexV (i := k) ((hlc rfl).dat D_v sub_all) (hlc rfl) Try.underlying31 sz33 rfl hlt) ?_
     refine .rf (X := SA w S []) (e := V.d (xs[k]'hlt)) (sp_assign (hlc rfl)) ?_
     refine .done ⟨by kernel_rfl, fun a14 g W14 y14 zz14 hk hg hV hR hP => ?_⟩
     obtain ⟨e10, -, -, -, -⟩ := hV
     replace e0 := (hR 0 rfl).trans e0
     replace e1 := (hR 1 rfl).trans e1
     replace e2 := (hR 2 rfl).trans e2
     replace e3 := (hR 3 rfl).trans e3
     replace e13 := (hR 13 rfl).trans e13
     replace e14 := (hR 14 rfl).trans e14
     replace D_v := D_v.ext hk
     replace D_p := D_p.ext hk
     obtain ⟨v10_14, ev⟩ : ∃ v, sl a14 10 = v := ⟨_, rfl⟩
     rw [ev] at e10
     have D_v10_14 : Ref W14 (SA w S []) (V.d (xs[k]'hlt)) v10_14 := rsa_end e10 hk [] in_nil
     replace e10 := ev; clear ev
     replace kw := kw.x hk
     clear hR hk hg hP
     refine tail_nil (hK13 _ _ ?_)
     refine wp_seq_k fun K15 hK15 => ?_
     refine wp_seq_k fun K16 hK16 => ?_
     refine rg mixed y14 zz14 ?_
     refine .i (sp_move (hbs rfl e3)) ?_
     refine .i (sp_move (hlc rfl)) ?_
     refine .e (t := 21) rfl (hlc rfl) (fun hg => sp_move (hbs rfl e10)) ?_
     refine .opE (t := 21) (φ := IsR (SA w S []) (V.d (xs[k]'hlt))) rfl (hlc rfl) (st_r sub_all) (fun hg => sp_nilR (((hlc rfl).undE hg).refd D_v10_14 sub_all)) ?_
     refine .opE (t := 21) (φ := IsR (SA w S []) (D.int .u8 ((xs[k]'hlt).k))) rfl (hlc rfl) (st_r sub_all) (fun hg => sp_fieldV ((hlc rfl).undE hg) Try.underlying33 rfl sz5 rfl rfl) ?_
     refine .e (t := 21) rfl (hlc rfl) (fun hg => sp_loadInt ((hlc rfl).undE hg) agg5 sz5) ?_
     refine .e (t := 21) rfl (hlc rfl) (fun hg => sp_neq ((hlc rfl).undE hg) Has.cst) ?_
     refine .i (sp_and (hlc rfl) ((hlc rfl).weak fun hq => hq)) ?_
     refine .i (sp_move (hlc rfl)) ?_
     refine .e (t := 28) rfl (hlc rfl) (fun hg => sp_move (hbs rfl e10)) ?_
     refine .opE (t := 28) (φ := IsR (SA w S []) (V.d (xs[k]'hlt))) rfl (hlc rfl) (st_r sub_all) (fun hg => sp_nilR (((hlc rfl).undE hg).refd D_v10_14 sub_all)) ?_
     refine .opE (t := 28) (φ := IsR (SA w S []) (D.int .u8 ((xs[k]'hlt).k))) rfl (hlc rfl) (st_r sub_all) (fun hg => sp_fieldV ((hlc rfl).undE hg) Try.underlying33 rfl sz5 rfl rfl) ?_
     refine .e (t := 28) rfl (hlc rfl) (fun hg => sp_loadInt ((hlc rfl).undE hg) agg5 sz5) ?_
     refine .e (t := 28) rfl (hlc rfl) (fun hg => sp_neq ((hlc rfl).undE hg) Has.cst) ?_
     refine .i (sp_and (hlc rfl) ((hlc rfl).weak fun hq => hq)) ?_
     refine .done ⟨by kernel_rfl, fun a17 g W17 y17 zz17 hk hg hV hR hP => ?_⟩
     obtain ⟨e34, -, -, -, -, -, -, -, -, -, -, -, -, -, -, -⟩ := hV
     replace e0 := (hR 0 rfl).trans e0
     replace e1 := (hR 1 rfl).trans e1
     replace e2 := (hR 2 rfl).trans e2
     replace e3 := (hR 3 rfl).trans e3
     replace e13 := (hR 13 rfl).trans e13
     replace e14 := (hR 14 rfl).trans e14
     replace e10 := (hR 10 rfl).trans e10
     replace D_v := D_v.ext hk
     replace D_p := D_p.ext hk
     replace D_v10_14 := D_v10_14.ext hk
     replace e34 := e34.q
     replace kw := kw.x hk
     clear hR hk hg hP
     refine tail_nil (hK16 _ _ ?_)
     refine wp_cond_split e34 (fun hc => ?_) (fun hc => ?_)
     ·
      refine wp_exit (hK10 _ _ ?_)
      refine rg mixed y17 zz17 ?_
      refine .i (sp_add (hbs rfl e14) Has.cst (i64_in (by omega))) ?_
      refine .i (sp_move (hlc rfl)) ?_
      refine .done ⟨by kernel_rfl, fun a18 g W18 y18 zz18 hk hg hV hR hP => ?_⟩
      obtain ⟨e14, -, -⟩ := hV
      replace e0 := (hR 0 rfl).trans e0
      replace e1 := (hR 1 rfl).trans e1
      replace e2 := (hR 2 rfl).trans e2
      replace e3 := (hR 3 rfl).trans e3
      replace e13 := (hR 13 rfl).trans e13
      replace D_v := D_v.ext hk
      replace D_p := D_p.ext hk
      replace D_v10_14 := D_v10_14.ext hk
      replace e14 := e14.q
      replace kw := kw.x hk
      clear hR hk hg hP
      exact tail_nil ⟨hlt, y18, zz18, kw, e0, e1, e2, e3, e13, (e14.trans (congrArg (Value.int .i64) (by simp))), D_v, D_p⟩
     ·
      refine wp_skip (hK15 _ _ ?_)
      refine wp_seq_k fun K19 hK19 => ?_
      refine wp_seq_k fun K20 hK20 => ?_
      refine rg mixed y17 zz17 ?_
      refine .i (sp_move (hbs rfl e10)) ?_
      refine .i (sp_move (hbs rfl e2)) ?_
      refine .i (v := (.bool (false))) (sp_refEq Try.underlying186 sz33 ((hlc rfl).refd D_v10_14 sub_all) ((hlc rfl).refd D_p sub_all) (sa_cln hS) (sa_cln hS) (fun W X Y cs h1 h2 => by have := rdV_det _ _ cs h1 h2; have := congrArg V.cnt this; omega) (by rw [V.d_eq, V.d_eq]; rfl)) ?_
      refine .done ⟨by kernel_rfl, fun a21 g W21 y21 zz21 hk hg hV hR hP => ?_⟩
      obtain ⟨e37, -, -, -⟩ := hV
      replace e0 := (hR 0 rfl).trans e0
      replace e1 := (hR 1 rfl).trans e1
      replace e2 := (hR 2 rfl).trans e2
      replace e3 := (hR 3 rfl).trans e3
      replace e13 := (hR 13 rfl).trans e13
      replace e14 := (hR 14 rfl).trans e14
      replace e10 := (hR 10 rfl).trans e10
      replace D_v := D_v.ext hk
      replace D_p := D_p.ext hk
      replace D_v10_14 := D_v10_14.ext hk
      have e37 : sl a21 37 = (.bool (false)) := e37
      replace kw := kw.x hk
      clear hR hk hg hP
      refine tail_nil (hK20 _ _ ?_)
      refine wp_cond_false e37 ?_
      refine wp_skip (hK19 _ _ ?_)
      refine wp_seq_k fun K22 hK22 => ?_
      refine rg mixed y21 zz21 ?_
      refine .i (sp_move (hbs rfl e2)) ?_
      refine .i (sp_assign (hlc rfl)) ?_
      refine .done ⟨by kernel_rfl, fun a23 g W23 y23 zz23 hk hg hV hR hP => ?_⟩
      obtain ⟨e11, -, -⟩ := hV
      replace e0 := (hR 0 rfl).trans e0
      replace e1 := (hR 1 rfl).trans e1
      replace e2 := (hR 2 rfl).trans e2
      replace e3 := (hR 3 rfl).trans e3
      replace e13 := (hR 13 rfl).trans e13
      replace e14 := (hR 14 rfl).trans e14
      replace e10 := (hR 10 rfl).trans e10
      replace D_v := D_v.ext hk
      replace D_p := D_p.ext hk
      replace D_v10_14 := D_v10_14.ext hk
      have e11 : sl a23 11 = p := e11
      replace kw := kw.x hk
      clear hR hk hg hP
      refine tail_nil (hK22 _ _ ?_)
      refine wp_seq_k fun K24 hK24 => ?_
      refine wp_seq_k fun K25 hK25 => ?_
      refine rg mixed y23 zz23 ?_
      refine .i (sp_move (hbs rfl e1)) ?_
      refine .i (sp_move (hbs rfl e1)) ?_
      refine .i (sp_sub (hlc rfl) Has.cst (i64_in (by omega))) ?_
      refine .i (sp_band (hlc rfl) (hlc rfl)) ?_
      refine .i (sp_eql (hlc rfl) Has.cst) ?_
      refine .done ⟨by kernel_rfl, fun a26 g W26 y26 zz26 hk hg hV hR hP => ?_⟩
      obtain ⟨e43, -, -, -, -, -⟩ := hV
      replace e0 := (hR 0 rfl).trans e0
      replace e1 := (hR 1 rfl).trans e1
      replace e2 := (hR 2 rfl).trans e2
      replace e3 := (hR 3 rfl).trans e3
      replace e13 := (hR 13 rfl).trans e13
      replace e14 := (hR 14 rfl).trans e14
      replace e10 := (hR 10 rfl).trans e10
      replace e11 := (hR 11 rfl).trans e11
      replace D_v := D_v.ext hk
      replace D_p := D_p.ext hk
      replace D_v10_14 := D_v10_14.ext hk
      replace e43 := e43.q
      replace kw := kw.x hk
      clear hR hk hg hP
      refine tail_nil (hK25 _ _ ?_)
      refine wp_cond_split e43 (fun hc => ?_) (fun hc => ?_)
      ·
       refine rg mixed y26 zz26 ?_
       refine .i (sp_move (hbs rfl e10)) ?_
       refine .i (sp_assign (hlc rfl)) ?_
       refine .done ⟨by kernel_rfl, fun a27 g W27 y27 zz27 hk hg hV hR hP => ?_⟩
       obtain ⟨e11, -, -⟩ := hV
       replace e0 := (hR 0 rfl).trans e0
       replace e1 := (hR 1 rfl).trans e1
       replace e2 := (hR 2 rfl).trans e2
       replace e3 := (hR 3 rfl).trans e3
       replace e13 := (hR 13 rfl).trans e13
       replace e14 := (hR 14 rfl).trans e14
       replace e10 := (hR 10 rfl).trans e10
       replace D_v := D_v.ext hk
       replace D_p := D_p.ext hk
       replace D_v10_14 := D_v10_14.ext hk
       have e11 : sl a27 11 = v10_14 := e11
       replace kw := kw.x hk
       clear hR hk hg hP
       refine tail_nil (hK24 _ _ ?_)
       refine wp_seq_k fun K28 hK28 => ?_
       refine rg mixed y27 zz27 ?_
       refine .i (sp_move (hbs rfl e10)) ?_
       refine .rf (sp_nilR ((hlc rfl).refd D_v10_14 sub_all)) ?_
       refine .rf (X := SA w S []) (e := valsD ((xs[k]'hlt).xs)) (sp_fieldV (hlc rfl) Try.underlying33 rfl sz31 rfl rfl) ?_
       refine .da (X := SA w S []) (e := valsD ((xs[k]'hlt).xs)) (sp_loadR (hlc rfl) agg31 sz31 rfl) ?_
       refine .i (sp_move (hbs rfl e1)) ?_
       refine .i (sp_add (hlc rfl) Has.cst (i64_in (by omega))) ?_
       refine .i (sp_move (hbs rfl e11)) ?_
       refine .i (sp_move (hbs rfl e3)) ?_
       refine .i (v := (.bool (false))) (sp_call4 (φ1 := IsD (SA w S []) (valsD ((xs[k]'hlt).xs))) (φ2 := Is (.int .i64 ((level : Int) + (1 : Int)))) (φ3 := IsR (SA w S []) (V.d (xs[k]'hlt))) (φ4 := Is (.bool (nested))) ent137 (hlc rfl) (hlc rfl) ((hlc rfl).refd D_v10_14 sub_all) (hlc rfl) (fun g u1 u2 u3 u4 W hk hgk h1 h2 h3 h4 => by have h2 : u2 = _ := h2; subst u2; have h4 : u4 = _ := h4; subst u4; exact ih ((xs[k]'hlt).xs) (by omega) ((level : Int) + (1 : Int)) (by omega) (by omega) (nested) _ W _ _ (fun b o h => sa_cln hS b o h.1) h1 (Or.inr ⟨_, h3, by omega⟩))) ?_
       refine .done ⟨by kernel_rfl, fun a29 g W29 y29 zz29 hk hg hV hR hP => ?_⟩
       obtain ⟨e53, -, -, -, -, -, -, -, -, -⟩ := hV
       replace e0 := (hR 0 rfl).trans e0
       replace e1 := (hR 1 rfl).trans e1
       replace e2 := (hR 2 rfl).trans e2
       replace e3 := (hR 3 rfl).trans e3
       replace e13 := (hR 13 rfl).trans e13
       replace e14 := (hR 14 rfl).trans e14
       replace D_v := D_v.ext hk
       replace D_p := D_p.ext hk
       replace D_v10_14 := D_v10_14.ext hk
       have e53 : sl a29 53 = (.bool (false)) := e53
       replace kw := kw.x hk
       clear hR hk hg hP
       refine tail_nil (hK28 _ _ ?_)
       refine wp_cond_false e53 ?_
       refine wp_skip (hK10 _ _ ?_)
       refine rg mixed y29 zz29 ?_
       refine .i (sp_add (hbs rfl e14) Has.cst (i64_in (by omega))) ?_
       refine .i (sp_move (hlc rfl)) ?_
       refine .done ⟨by kernel_rfl, fun a30 g W30 y30 zz30 hk hg hV hR hP => ?_⟩
       obtain ⟨e14, -, -⟩ := hV
       replace e0 := (hR 0 rfl).trans e0
       replace e1 := (hR 1 rfl).trans e1
       replace e2 := (hR 2 rfl).trans e2
       replace e3 := (hR 3 rfl).trans e3
       replace e13 := (hR 13 rfl).trans e13
       replace D_v := D_v.ext hk
       replace D_p := D_p.ext hk
       replace e14 := e14.q
       replace kw := kw.x hk
       clear hR hk hg hP
       exact tail_nil ⟨hlt, y30, zz30, kw, e0, e1, e2, e3, e13, (e14.trans (congrArg (Value.int .i64) (by simp))), D_v, D_p⟩
      ·
       refine wp_skip (hK24 _ _ ?_)
       refine wp_seq_k fun K31 hK31 => ?_
       refine rg mixed y26 zz26 ?_
       refine .i (sp_move (hbs rfl e10)) ?_
       refine .rf (sp_nilR ((hlc rfl).refd D_v10_14 sub_all)) ?_
       refine .rf (X := SA w S []) (e := valsD ((xs[k]'hlt).xs)) (sp_fieldV (hlc rfl) Try.underlying33 rfl sz31 rfl rfl) ?_
       refine .da (X := SA w S []) (e := valsD ((xs[k]'hlt).xs)) (sp_loadR (hlc rfl) agg31 sz31 rfl) ?_
       refine .i (sp_move (hbs rfl e1)) ?_
       refine .i (sp_add (hlc rfl) Has.cst (i64_in (by omega))) ?_
       refine .i (sp_move (hbs rfl e11)) ?_
       refine .i (sp_move (hbs rfl e3)) ?_
       refine .i (v := (.bool (false))) (sp_call4 (φ1 := IsD (SA w S []) (valsD ((xs[k]'hlt).xs))) (φ2 := Is (.int .i64 ((level : Int) + (1 : Int)))) (φ3 := IsR (SA w S []) (V.d (y))) (φ4 := Is (.bool (nested))) ent137 (hlc rfl) (hlc rfl) ((hlc rfl).refd D_p sub_all) (hlc rfl) (fun g u1 u2 u3 u4 W hk hgk h1 h2 h3 h4 => by have h2 : u2 = _ := h2; subst u2; have h4 : u4 = _ := h4; subst u4; exact ih ((xs[k]'hlt).xs) (by omega) ((level : Int) + (1 : Int)) (by omega) (by omega) (nested) _ W _ _ (fun b o h => sa_cln hS b o h.1) h1 (Or.inr ⟨_, h3, by omega⟩))) ?_
       refine .done ⟨by kernel_rfl, fun a32 g W32 y32 zz32 hk hg hV hR hP => ?_⟩
       obtain ⟨e53, -, -, -, -, -, -, -, -, -⟩ := hV
       replace e0 := (hR 0 rfl).trans e0
       replace e1 := (hR 1 rfl).trans e1
       replace e2 := (hR 2 rfl).trans e2
       replace e3 := (hR 3 rfl).trans e3
       replace e13 := (hR 13 rfl).trans e13
       replace e14 := (hR 14 rfl).trans e14
       replace D_v := D_v.ext hk
       replace D_p := D_p.ext hk
       replace D_v10_14 := D_v10_14.ext hk
       have e53 : sl a32 53 = (.bool (false)) := e53
       replace kw := kw.x hk
       clear hR hk hg hP
       refine tail_nil (hK31 _ _ ?_)
       refine wp_cond_false e53 ?_
       refine wp_skip (hK10 _ _ ?_)
       refine rg mixed y32 zz32 ?_
       refine .i (sp_add (hbs rfl e14) Has.cst (i64_in (by omega))) ?_
       refine .i (sp_move (hlc rfl)) ?_
       refine .done ⟨by kernel_rfl, fun a33 g W33 y33 zz33 hk hg hV hR hP => ?_⟩
       obtain ⟨e14, -, -⟩ := hV
       replace e0 := (hR 0 rfl).trans e0
       replace e1 := (hR 1 rfl).trans e1
       replace e2 := (hR 2 rfl).trans e2
       replace e3 := (hR 3 rfl).trans e3
       replace e13 := (hR 13 rfl).trans e13
       replace D_v := D_v.ext hk
       replace D_p := D_p.ext hk
       replace e14 := e14.q
       replace kw := kw.x hk
       clear hR hk hg hP
       exact tail_nil ⟨hlt, y33, zz33, kw, e0, e1, e2, e3, e13, (e14.trans (congrArg (Value.int .i64) (by simp))), D_v, D_p⟩
    ·
     have hge0 : ¬ k < xs.length := by simpa using hc
     have hge : k = xs.length := by omega
     refine wp_exit (hK3 _ _ ?_)
     refine wp_seq_k fun K34 hK34 => ?_
     refine rg mixed y8 zz8 ?_
     refine .i (sp_assign Has.cst) ?_
     refine .done ⟨by kernel_rfl, fun a35 g W35 y35 zz35 hk hg hV hR hP => ?_⟩
     obtain ⟨e8, -⟩ := hV
     replace D_v := D_v.ext hk
     replace D_p := D_p.ext hk
     have e8 : sl a35 8 = (.bool (false)) := e8
     replace kw := kw.x hk
     clear hR hk hg hP
     refine tail_nil (hK34 _ _ ?_)
     refine wp_ret ?_
     refine (show bodyPost Try.prog Try.f137 _ .ret _ _ from ret1 rfl zz35 e8 ⟨_, rfl, kw, ?_⟩)
     exact rfl

end Go.Proofs.Ytnobijngkpflcaa
