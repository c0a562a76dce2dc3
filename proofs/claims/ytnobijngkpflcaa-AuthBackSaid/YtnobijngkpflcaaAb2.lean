/-
  The law AuthBack of package legatelaw15 returns true for every input, and leaves its arguments as they were. No condition beyond the row's own.
-/
import Derived.Test.YtnobijngkpflcaaAb1
import Derived.Sort.Walk0
import Derived.MapKept
namespace Go.Proofs.Ytnobijngkpflcaa
open Go.Eng
set_option maxRecDepth 100000 in
theorem size_all : ∀ (n : Nat) (xs : List V), V.cnts xs < n → ∀ (deep : Nat), deep ≤ 201 → ∀ (w : World) (S : BSet) (v : Value), Rd w S (valsD xs) v → Calls Try.prog 81 #[v, .int .i64 deep] w (Ret w fun u _ => u = .int .i64 (szL xs deep 0)) := by
  intro n
  induction n with
  | zero => intro xs hx; omega
  | succ n ih =>
  intro xs hx deep hdeep w S v hv
  have hmx : xs.length ≤ maxLen := rd_len hv
  simp only [maxLen] at hmx
  obtain ⟨va, vc, ev, D_v⟩ := rdVs_out (rd_arg hv)
  subst ev
  refine enter Try.func81 rfl Try.ntmps81 (lbr rfl) fun a0 y0 zz0 harg => ?_
  have e0 : sl a0 0 = (.slice va (xs.length) vc) := harg 0 (lbr rfl)
  have e1 : sl a0 1 = (.int .i64 ((deep : Nat))) := harg 1 (lbr rfl)
  have kw := Keeps.refl All w
  clear harg
  refine wp_seq_k fun K1 hK1 => ?_
  refine rg mixed y0 zz0 ?_
  refine .i (sp_assign Has.cst) ?_
  refine .done ⟨by kernel_rfl, fun a2 g W2 y2 zz2 hk hg hV hR hP => ?_⟩
  obtain ⟨-, -⟩ := hV
  replace e0 := (hR 0 rfl).trans e0
  replace e1 := (hR 1 rfl).trans e1
  replace D_v := D_v.ext hk
  replace kw := kw.x hk
  clear hR hk hg hP
  refine tail_nil (hK1 _ _ ?_)
  refine wp_seq_k fun K3 hK3 => ?_
  refine rg mixed y2 zz2 ?_
  refine .i (sp_assign Has.cst) ?_
  refine .done ⟨by kernel_rfl, fun a4 g W4 y4 zz4 hk hg hV hR hP => ?_⟩
  obtain ⟨e5, -⟩ := hV
  replace e0 := (hR 0 rfl).trans e0
  replace e1 := (hR 1 rfl).trans e1
  replace D_v := D_v.ext hk
  have e5 : sl a4 5 = (.int .i64 (0)) := e5
  replace kw := kw.x hk
  clear hR hk hg hP
  refine tail_nil (hK3 _ _ ?_)
  refine wp_seq_k fun K5 hK5 => ?_
  refine wp_seq_k fun K6 hK6 => ?_
  refine rg mixed y4 zz4 ?_
  refine .i (sp_assign Has.cst) ?_
  refine .done ⟨by kernel_rfl, fun a7 g W7 y7 zz7 hk hg hV hR hP => ?_⟩
  obtain ⟨e6, -⟩ := hV
  replace e0 := (hR 0 rfl).trans e0
  replace e1 := (hR 1 rfl).trans e1
  replace e5 := (hR 5 rfl).trans e5
  replace D_v := D_v.ext hk
  have e6 : sl a7 6 = (.int .i64 (0)) := e6
  replace kw := kw.x hk
  clear hR hk hg hP
  refine tail_nil (hK6 _ _ ?_)
  refine wp_block ?_
  refine wp_for (xs.length) (fun k a W => ∃ (n2 : Nat), a.tmps.size = 68 ∧ a.defers = [] ∧ Keeps All w W ∧ sl a 0 = (.slice va (xs.length) vc) ∧ sl a 1 = (.int .i64 ((deep : Nat))) ∧ sl a 5 = (.int .i64 ((n2 : Nat))) ∧ sl a 6 = (.int .i64 ((k : Nat))) ∧ Rd W (SA w S []) (valsD (xs)) (.slice va (xs.length) vc) ∧ (szL xs deep 0 = szL (xs.drop k) deep n2)) ⟨0, y7, zz7, kw, e0, e1, (e5.trans (congrArg (Value.int .i64) (rfl))), (e6.trans (congrArg (Value.int .i64) (rfl))), D_v, rfl⟩ ?_
  clear kw e0 e1 e5 e6 D_v
  rintro k a8 W8 hkk ⟨n2, y8, zz8, kw, e0, e1, e5, e6, D_v, hin⟩
  refine wp_seq_k fun K9 hK9 => ?_
  refine wp_seq_k fun K10 hK10 => ?_
  refine rg mixed y8 zz8 ?_
  refine .i (sp_move (hbs rfl e6)) ?_
  refine .i (sp_move (hbs rfl e0)) ?_
  refine .i (sp_lenVs Try.underlying31 ((hlc rfl).dat D_v sub_all)) ?_
  refine .i (sp_lss (hlc rfl) (hlc rfl)) ?_
  refine .i (sp_move (hlc rfl)) ?_
  refine .e (t := 12) rfl (hlc rfl) (fun hg => sp_move (hbs rfl e5)) ?_
  refine .e (t := 12) rfl (hlc rfl) (fun hg => sp_lss ((hlc rfl).undE hg) Has.cst) ?_
  refine .i (sp_and (hlc rfl) ((hlc rfl).weak fun hq => hq)) ?_
  refine .done ⟨by kernel_rfl, fun a11 g W11 y11 zz11 hk hg hV hR hP => ?_⟩
  obtain ⟨e15, -, -, -, -, -, -, -, -⟩ := hV
  replace e0 := (hR 0 rfl).trans e0
  replace e1 := (hR 1 rfl).trans e1
  replace e5 := (hR 5 rfl).trans e5
  replace e6 := (hR 6 rfl).trans e6
  replace D_v := D_v.ext hk
  replace e15 := e15.q
  replace kw := kw.x hk
  clear hR hk hg hP
  refine tail_nil (hK10 _ _ ?_)
  refine wp_cond_split e15 (fun hc => ?_) (fun hc => ?_)
  ·
   simp at hc
   obtain ⟨hlt, hn2i⟩ := hc
   have hn2 : n2 < 20000 := by omega
   have hdr := List.drop_eq_getElem_cons hlt
   have hce := cnt_elem hlt
   have hcq := cnt_eq xs[k]
   rw [hdr, szL, if_pos hn2] at hin
   have hmn : (xs[k]).ns.length ≤ maxLen := rd_ns hv hlt
   simp only [maxLen] at hmn
   refine wp_skip (hK9 _ _ ?_)
   refine wp_seq_k fun K12 hK12 => ?_
   refine wp_block ?_
   refine wp_seq_k fun K13 hK13 => ?_
   refine rg mixed y11 zz11 ?_
   refine .i (sp_move (hbs rfl e5)) ?_
   refine .i (sp_add (hlc rfl) Has.cst (i64_in (by omega))) ?_
   refine .i (sp_move (hbs rfl e0)) ?_
   refine .i (sp_move (hbs rfl e6)) ?_
   refine .rf (sp_indexV (i := k) ((hlc rfl).dat D_v sub_all) (hlc rfl) Try.underlying31 sz33 rfl hlt) ?_
   refine .rf (X := SA w S []) (e := D.str ((xs[k]'hlt).t)) (sp_fieldV (hlc rfl) Try.underlying33 rfl sz9 rfl rfl) ?_
   refine .i (sp_loadStr (hlc rfl) agg9 sz9) ?_
   refine .i (sp_lenS Try.underlying9 (hlc rfl)) ?_
   refine .i (sp_min Has.cst (hlc rfl)) ?_
   refine .i (sp_add (hlc rfl) (hlc rfl) (i64_in (by omega))) ?_
   refine .i (sp_assign (hlc rfl)) ?_
   refine .done ⟨by kernel_rfl, fun a14 g W14 y14 zz14 hk hg hV hR hP => ?_⟩
   obtain ⟨e5, -, -, -, -, -, -, -, -, -, -, -⟩ := hV
   replace e0 := (hR 0 rfl).trans e0
   replace e1 := (hR 1 rfl).trans e1
   replace e6 := (hR 6 rfl).trans e6
   replace D_v := D_v.ext hk
   replace e5 := e5.q
   replace kw := kw.x hk
   clear hR hk hg hP
   refine tail_nil (hK13 _ _ ?_)
   refine wp_seq_k fun K15 hK15 => ?_
   refine wp_seq_k fun K16 hK16 => ?_
   refine rg mixed y14 zz14 ?_
   refine .i (sp_assign Has.cst) ?_
   refine .done ⟨by kernel_rfl, fun a17 g W17 y17 zz17 hk hg hV hR hP => ?_⟩
   obtain ⟨e7, -⟩ := hV
   replace e0 := (hR 0 rfl).trans e0
   replace e1 := (hR 1 rfl).trans e1
   replace e5 := (hR 5 rfl).trans e5
   replace e6 := (hR 6 rfl).trans e6
   replace D_v := D_v.ext hk
   have e7 : sl a17 7 = (.int .i64 (0)) := e7
   replace kw := kw.x hk
   clear hR hk hg hP
   refine tail_nil (hK16 _ _ ?_)
   refine wp_block ?_
   refine wp_for ((xs[k]'hlt).ns.length) (fun j a W => ∃ (n3 : Nat), a.tmps.size = 68 ∧ a.defers = [] ∧ Keeps All w W ∧ sl a 0 = (.slice va (xs.length) vc) ∧ sl a 1 = (.int .i64 ((deep : Nat))) ∧ sl a 5 = (.int .i64 ((n3 : Nat))) ∧ sl a 6 = (.int .i64 ((k : Nat))) ∧ sl a 7 = (.int .i64 ((j : Nat))) ∧ Rd W (SA w S []) (valsD (xs)) (.slice va (xs.length) vc) ∧ (szN (xs[k]'hlt).ns (n2 + 4 + min 20000 (xs[k]'hlt).t.size) = szN ((xs[k]'hlt).ns.drop j) n3)) ⟨(n2 + 4 + min 20000 (xs[k]'hlt).t.size), y17, zz17, kw, e0, e1, (e5.trans (congrArg (Value.int .i64) (by push_cast; omega))), e6, (e7.trans (congrArg (Value.int .i64) (rfl))), D_v, rfl⟩ ?_
   clear kw e0 e1 e5 e6 e7 D_v
   rintro j a18 W18 hkj ⟨n3, y18, zz18, kw, e0, e1, e5, e6, e7, D_v, hin2⟩
   refine wp_seq_k fun K19 hK19 => ?_
   refine wp_seq_k fun K20 hK20 => ?_
   refine rg mixed y18 zz18 ?_
   refine .i (sp_move (hbs rfl e7)) ?_
   refine .i (sp_move (hbs rfl e0)) ?_
   refine .i (sp_move (hbs rfl e6)) ?_
   refine .rf (sp_indexV (i := k) ((hlc rfl).dat D_v sub_all) (hlc rfl) Try.underlying31 sz33 rfl hlt) ?_
   refine .rf (X := SA w S []) (e := strsD ((xs[k]'hlt).ns)) (sp_fieldV (hlc rfl) Try.underlying33 rfl sz23 rfl rfl) ?_
   refine .da (X := SA w S []) (e := strsD ((xs[k]'hlt).ns)) (sp_loadR (hlc rfl) agg23 sz23 rfl) ?_
   refine .i (sp_lenSs Try.underlying23 (hlc rfl)) ?_
   refine .i (sp_lss (hlc rfl) (hlc rfl)) ?_
   refine .i (sp_move (hlc rfl)) ?_
   refine .e (t := 36) rfl (hlc rfl) (fun hg => sp_move (hbs rfl e5)) ?_
   refine .e (t := 36) rfl (hlc rfl) (fun hg => sp_lss ((hlc rfl).undE hg) Has.cst) ?_
   refine .i (sp_and (hlc rfl) ((hlc rfl).weak fun hq => hq)) ?_
   refine .done ⟨by kernel_rfl, fun a21 g W21 y21 zz21 hk hg hV hR hP => ?_⟩
   obtain ⟨e39, -, -, -, -, -, -, -, -, -, -, -, -⟩ := hV
   replace e0 := (hR 0 rfl).trans e0
   replace e1 := (hR 1 rfl).trans e1
   replace e5 := (hR 5 rfl).trans e5
   replace e6 := (hR 6 rfl).trans e6
   replace e7 := (hR 7 rfl).trans e7
   replace D_v := D_v.ext hk
   replace e39 := e39.q
   replace kw := kw.x hk
   clear hR hk hg hP
   refine tail_nil (hK20 _ _ ?_)
   refine wp_cond_split e39 (fun hc => ?_) (fun hc => ?_)
   ·
    simp at hc
    obtain ⟨hltj, hn3i⟩ := hc
    have hn3 : n3 < 20000 := by omega
    have hdj := List.drop_eq_getElem_cons hltj
    rw [hdj, szN, if_pos hn3] at hin2
    refine wp_skip (hK19 _ _ ?_)
    refine wp_seq_k fun K22 hK22 => ?_
    refine wp_block ?_
    refine rg mixed y21 zz21 ?_
    refine .i (sp_move (hbs rfl e5)) ?_
    refine .i (sp_add (hlc rfl) Has.cst (i64_in (by omega))) ?_
    refine .i (sp_move (hbs rfl e0)) ?_
    refine .i (sp_move (hbs rfl e6)) ?_
    refine .rf (sp_indexV (i := k) ((hlc rfl).dat D_v sub_all) (hlc rfl) Try.underlying31 sz33 rfl hlt) ?_
    refine .rf (X := SA w S []) (e := strsD ((xs[k]'hlt).ns)) (sp_fieldV (hlc rfl) Try.underlying33 rfl sz23 rfl rfl) ?_
    refine .da (X := SA w S []) (e := strsD ((xs[k]'hlt).ns)) (sp_loadR (hlc rfl) agg23 sz23 rfl) ?_
    refine .i (sp_move (hbs rfl e7)) ?_
    refine .rf (sp_indexS (i := j) (hlc rfl) (hlc rfl) Try.underlying23 sz9 rfl hltj) ?_
    refine .i (sp_loadStr (hlc rfl) agg9 sz9) ?_
    refine .i (sp_lenS Try.underlying9 (hlc rfl)) ?_
    refine .i (sp_min Has.cst (hlc rfl)) ?_
    refine .i (sp_add (hlc rfl) (hlc rfl) (i64_in (by omega))) ?_
    refine .i (sp_assign (hlc rfl)) ?_
    refine .done ⟨by kernel_rfl, fun a23 g W23 y23 zz23 hk hg hV hR hP => ?_⟩
    obtain ⟨e5, -, -, -, -, -, -, -, -, -, -, -, -, -, -⟩ := hV
    replace e0 := (hR 0 rfl).trans e0
    replace e1 := (hR 1 rfl).trans e1
    replace e6 := (hR 6 rfl).trans e6
    replace e7 := (hR 7 rfl).trans e7
    replace D_v := D_v.ext hk
    replace e5 := e5.q
    replace kw := kw.x hk
    clear hR hk hg hP
    refine tail_nil (hK22 _ _ ?_)
    refine rg mixed y23 zz23 ?_
    refine .i (sp_move (hbs rfl e7)) ?_
    refine .i (sp_add (hlc rfl) Has.cst (i64_in (by omega))) ?_
    refine .i (sp_assign (hlc rfl)) ?_
    refine .done ⟨by kernel_rfl, fun a24 g W24 y24 zz24 hk hg hV hR hP => ?_⟩
    obtain ⟨e7, -, -, -⟩ := hV
    replace e0 := (hR 0 rfl).trans e0
    replace e1 := (hR 1 rfl).trans e1
    replace e5 := (hR 5 rfl).trans e5
    replace e6 := (hR 6 rfl).trans e6
    replace D_v := D_v.ext hk
    replace e7 := e7.q
    replace kw := kw.x hk
    clear hR hk hg hP
    exact tail_nil ⟨hltj, (n3 + 2 + min 20000 ((xs[k]'hlt).ns[j]'hltj).size), y24, zz24, kw, e0, e1, (e5.trans (congrArg (Value.int .i64) (by push_cast; omega))), e6, (e7.trans (congrArg (Value.int .i64) (by simp))), D_v, hin2⟩
   ·
    have hfn : szN (xs[k]'hlt).ns (n2 + 4 + min 20000 (xs[k]'hlt).t.size) = n3 := by
     rw [hin2]; simp at hc
     by_cases hltj : j < (xs[k]'hlt).ns.length
     · exact szN_big _ (by have := hc hltj; omega)
     · rw [List.drop_eq_nil_of_le (by omega)]; rfl
    have hsv := szV_eq (xs[k]'hlt) deep n2
    rw [hfn] at hsv
    have hs1 := (szN_le (xs[k]'hlt).ns (n2 + 4 + min 20000 (xs[k]'hlt).t.size)).2
    rw [hfn] at hs1
    have hs2 := szL_top (xs[k]'hlt).xs (deep + 1) 0
    refine wp_exit (hK15 _ _ ?_)
    refine wp_seq_k fun K25 hK25 => ?_
    refine wp_seq_k fun K26 hK26 => ?_
    refine rg mixed y21 zz21 ?_
    refine .i (sp_move (hbs rfl e1)) ?_
    refine .i (sp_gtr (hlc rfl) Has.cst) ?_
    refine .done ⟨by kernel_rfl, fun a27 g W27 y27 zz27 hk hg hV hR hP => ?_⟩
    obtain ⟨e56, -, -⟩ := hV
    replace e0 := (hR 0 rfl).trans e0
    replace e1 := (hR 1 rfl).trans e1
    replace e5 := (hR 5 rfl).trans e5
    replace e6 := (hR 6 rfl).trans e6
    replace D_v := D_v.ext hk
    replace e56 := e56.q
    replace kw := kw.x hk
    clear hR hk hg hP
    refine tail_nil (hK26 _ _ ?_)
    refine wp_cond_split e56 (fun hc => ?_) (fun hc => ?_)
    ·
     have hdd : 200 < deep := by have := of_decide_eq_true hc; omega
     rw [if_pos hdd] at hin
     refine wp_seq_k fun K28 hK28 => ?_
     refine rg mixed y27 zz27 ?_
     refine .i (sp_assign Has.cst) ?_
     refine .done ⟨by kernel_rfl, fun a29 g W29 y29 zz29 hk hg hV hR hP => ?_⟩
     obtain ⟨e4, -⟩ := hV
     replace D_v := D_v.ext hk
     have e4 : sl a29 4 = (.int .i64 (20000)) := e4
     replace kw := kw.x hk
     clear hR hk hg hP
     refine tail_nil (hK28 _ _ ?_)
     refine wp_ret ?_
     refine (show bodyPost Try.prog Try.f81 _ .ret _ _ from ret1 rfl zz29 e4 ⟨_, rfl, kw, ?_⟩)
     first | rw [hfin] | (rw [hin]; rfl)
    ·
     have hdd : ¬ 200 < deep := by have := of_decide_eq_false hc; omega
     rw [if_neg hdd, hsv] at hin
     have hs3 := hs2 (by omega)
     refine wp_skip (hK25 _ _ ?_)
     refine rg mixed y27 zz27 ?_
     refine .i (sp_move (hbs rfl e5)) ?_
     refine .i (sp_move (hbs rfl e0)) ?_
     refine .i (sp_move (hbs rfl e6)) ?_
     refine .rf (sp_indexV (i := k) ((hlc rfl).dat D_v sub_all) (hlc rfl) Try.underlying31 sz33 rfl hlt) ?_
     refine .rf (X := SA w S []) (e := valsD ((xs[k]'hlt).xs)) (sp_fieldV (hlc rfl) Try.underlying33 rfl sz31 rfl rfl) ?_
     refine .da (X := SA w S []) (e := valsD ((xs[k]'hlt).xs)) (sp_loadR (hlc rfl) agg31 sz31 rfl) ?_
     refine .i (sp_move (hbs rfl e1)) ?_
     refine .i (sp_add (hlc rfl) Has.cst (i64_in (by omega))) ?_
     refine .i (v := (.int .i64 (szL ((xs[k]'hlt).xs) (deep + 1) 0))) (sp_call2 (φ1 := IsD (SA w S []) (valsD ((xs[k]'hlt).xs))) (φ2 := Is (.int .i64 (((deep : Nat) : Int) + (1 : Int)))) ent81 (hlc rfl) (hlc rfl) (fun g u1 u2 W hk hgk h1 h2 => by have h2 : u2 = _ := h2; subst u2; exact ih ((xs[k]'hlt).xs) (by omega) (deep + 1) (by omega) W _ _ h1)) ?_
     refine .i (sp_add (hlc rfl) (hlc rfl) (i64_in (by omega))) ?_
     refine .i (sp_assign (hlc rfl)) ?_
     refine .done ⟨by kernel_rfl, fun a30 g W30 y30 zz30 hk hg hV hR hP => ?_⟩
     obtain ⟨e5, -, -, -, -, -, -, -, -, -, -, -⟩ := hV
     replace e0 := (hR 0 rfl).trans e0
     replace e1 := (hR 1 rfl).trans e1
     replace e6 := (hR 6 rfl).trans e6
     replace D_v := D_v.ext hk
     replace e5 := e5.q
     replace kw := kw.x hk
     clear hR hk hg hP
     refine tail_nil (hK12 _ _ ?_)
     refine rg mixed y30 zz30 ?_
     refine .i (sp_move (hbs rfl e6)) ?_
     refine .i (sp_add (hlc rfl) Has.cst (i64_in (by omega))) ?_
     refine .i (sp_assign (hlc rfl)) ?_
     refine .done ⟨by kernel_rfl, fun a31 g W31 y31 zz31 hk hg hV hR hP => ?_⟩
     obtain ⟨e6, -, -, -⟩ := hV
     replace e0 := (hR 0 rfl).trans e0
     replace e1 := (hR 1 rfl).trans e1
     replace e5 := (hR 5 rfl).trans e5
     replace D_v := D_v.ext hk
     replace e6 := e6.q
     replace kw := kw.x hk
     clear hR hk hg hP
     exact tail_nil ⟨hlt, (n3 + szL (xs[k]'hlt).xs (deep + 1) 0), y31, zz31, kw, e0, e1, (e5.trans (congrArg (Value.int .i64) (by push_cast; omega))), (e6.trans (congrArg (Value.int .i64) (by simp))), D_v, hin⟩
  ·
   have hfin : szL xs deep 0 = n2 := by
    rw [hin]; simp at hc
    by_cases hlt : k < xs.length
    · exact szL_big _ _ (by have := hc hlt; omega)
    · rw [List.drop_eq_nil_of_le (by omega)]; rfl
   refine wp_exit (hK5 _ _ ?_)
   refine wp_seq_k fun K32 hK32 => ?_
   refine rg mixed y11 zz11 ?_
   refine .i (sp_move (hbs rfl e5)) ?_
   refine .i (sp_assign (hlc rfl)) ?_
   refine .done ⟨by kernel_rfl, fun a33 g W33 y33 zz33 hk hg hV hR hP => ?_⟩
   obtain ⟨e4, -, -⟩ := hV
   replace D_v := D_v.ext hk
   have e4 : sl a33 4 = (.int .i64 ((n2 : Nat))) := e4
   replace kw := kw.x hk
   clear hR hk hg hP
   refine tail_nil (hK32 _ _ ?_)
   refine wp_ret ?_
   refine (show bodyPost Try.prog Try.f81 _ .ret _ _ from ret1 rfl zz33 e4 ⟨_, rfl, kw, ?_⟩)
   first | rw [hfin] | (rw [hin]; rfl)
set_option maxRecDepth 100000 in
theorem Long_ok (xs : List V) (w : World) (S : BSet) (v : Value) (hv : Rd w S (valsD xs) v) : Calls Try.prog 26 #[v] w (Ret w fun u _ => u = .bool (decide (20000 ≤ szL xs 0 0))) := by
  obtain ⟨va, vc, ev, D_v⟩ := rdVs_out (rd_arg hv)
  subst ev
  refine enter Try.func26 rfl Try.ntmps26 (lbr rfl) fun a0 y0 zz0 harg => ?_
  have e0 : sl a0 0 = (.slice va (xs.length) vc) := harg 0 (lbr rfl)
  have kw := Keeps.refl All w
  clear harg
  refine wp_seq_k fun K1 hK1 => ?_
  refine rg mixed y0 zz0 ?_
  refine .i (sp_assign Has.cst) ?_
  refine .done ⟨by kernel_rfl, fun a2 g W2 y2 zz2 hk hg hV hR hP => ?_⟩
  obtain ⟨-, -⟩ := hV
  replace e0 := (hR 0 rfl).trans e0
  replace D_v := D_v.ext hk
  replace kw := kw.x hk
  clear hR hk hg hP
  refine tail_nil (hK1 _ _ ?_)
  refine wp_seq_k fun K3 hK3 => ?_
  refine rg mixed y2 zz2 ?_
  refine .i (sp_move (hbs rfl e0)) ?_
  refine .i (v := (.int .i64 (szL (xs) 0 0))) (sp_call2 (φ1 := IsD (SA w S []) (valsD (xs))) (φ2 := Is (.int .i64 (0))) ent81 ((hlc rfl).dat D_v sub_all) Has.cst (fun g u1 u2 W hk hgk h1 h2 => by have h2 : u2 = _ := h2; subst u2; exact size_all _ (xs) (Nat.lt_succ_self _) 0 (by omega) W _ _ h1)) ?_
  refine .i (sp_geq (hlc rfl) Has.cst) ?_
  refine .i (sp_assign (hlc rfl)) ?_
  refine .done ⟨by kernel_rfl, fun a4 g W4 y4 zz4 hk hg hV hR hP => ?_⟩
  obtain ⟨e2, -, -, -, -⟩ := hV
  replace D_v := D_v.ext hk
  replace e2 := e2.q
  replace kw := kw.x hk
  clear hR hk hg hP
  refine tail_nil (hK3 _ _ ?_)
  refine wp_ret ?_
  refine (show bodyPost Try.prog Try.f26 _ .ret _ _ from ret1 rfl zz4 e2 ⟨_, rfl, kw, ?_⟩)
  congr 1; exact decide_eq_decide.2 (by omega)
set_option maxRecDepth 100000 in
theorem equal_ok (ns ms : List ByteArray) (w : World) (S : BSet) (v u : Value) (hv : Rd w S (strsD ns) v) (hu : Rd w S (strsD ms) u) : Calls Try.prog 127 #[v, u] w (Ret w fun u _ => u = .bool (decide (ns = ms))) := by
  have hl1 := rd_lenS hv
  have hl2 := rd_lenS hu
  simp only [maxLen] at hl1 hl2
  obtain ⟨va, vc, ev, D_v⟩ := rdS_out (rd_arg hv)
  subst ev
  obtain ⟨ua, uc, ev, D_u⟩ := rdS_out (rd_arg hu)
  subst ev
  refine enter Try.func127 rfl Try.ntmps127 (lbr rfl) fun a0 y0 zz0 harg => ?_
  have e0 : sl a0 0 = (.slice va (ns.length) vc) := harg 0 (lbr rfl)
  have e1 : sl a0 1 = (.slice ua (ms.length) uc) := harg 1 (lbr rfl)
  have kw := Keeps.refl All w
  clear harg
  refine wp_seq_k fun K1 hK1 => ?_
  refine rg mixed y0 zz0 ?_
  refine .i (sp_assign Has.cst) ?_
  refine .done ⟨by kernel_rfl, fun a2 g W2 y2 zz2 hk hg hV hR hP => ?_⟩
  obtain ⟨-, -⟩ := hV
  replace e0 := (hR 0 rfl).trans e0
  replace e1 := (hR 1 rfl).trans e1
  replace D_v := D_v.ext hk
  replace D_u := D_u.ext hk
  replace kw := kw.x hk
  clear hR hk hg hP
  refine tail_nil (hK1 _ _ ?_)
  refine wp_seq_k fun K3 hK3 => ?_
  refine wp_seq_k fun K4 hK4 => ?_
  refine rg mixed y2 zz2 ?_
  refine .i (sp_move (hbs rfl e0)) ?_
  refine .i (sp_lenSs Try.underlying23 ((hlc rfl).dat D_v sub_all)) ?_
  refine .i (sp_move (hbs rfl e1)) ?_
  refine .i (sp_lenSs Try.underlying23 ((hlc rfl).dat D_u sub_all)) ?_
  refine .i (sp_neq (hlc rfl) (hlc rfl)) ?_
  refine .done ⟨by kernel_rfl, fun a5 g W5 y5 zz5 hk hg hV hR hP => ?_⟩
  obtain ⟨e10, -, -, -, -, -⟩ := hV
  replace e0 := (hR 0 rfl).trans e0
  replace e1 := (hR 1 rfl).trans e1
  replace D_v := D_v.ext hk
  replace D_u := D_u.ext hk
  replace e10 := e10.q
  replace kw := kw.x hk
  clear hR hk hg hP
  refine tail_nil (hK4 _ _ ?_)
  refine wp_cond_split e10 (fun hc => ?_) (fun hc => ?_)
  ·
   have hfin : decide (ns = ms) = false := decide_eq_false fun h => by subst h; simp at hc
   refine wp_seq_k fun K6 hK6 => ?_
   refine rg mixed y5 zz5 ?_
   refine .i (sp_assign Has.cst) ?_
   refine .done ⟨by kernel_rfl, fun a7 g W7 y7 zz7 hk hg hV hR hP => ?_⟩
   obtain ⟨e4, -⟩ := hV
   replace D_v := D_v.ext hk
   replace D_u := D_u.ext hk
   have e4 : sl a7 4 = (.bool (false)) := e4
   replace kw := kw.x hk
   clear hR hk hg hP
   refine tail_nil (hK6 _ _ ?_)
   refine wp_ret ?_
   refine (show bodyPost Try.prog Try.f127 _ .ret _ _ from ret1 rfl zz7 e4 ⟨_, rfl, kw, ?_⟩)
   rw [hfin]
  ·
   have hll : ns.length = ms.length := by simp at hc; omega
   refine wp_skip (hK3 _ _ ?_)
   refine wp_seq_k fun K8 hK8 => ?_
   refine wp_seq_k fun K9 hK9 => ?_
   refine rg mixed y5 zz5 ?_
   refine .i (sp_move (hbs rfl e0)) ?_
   refine .i (sp_lenSs Try.underlying23 ((hlc rfl).dat D_v sub_all)) ?_
   refine .i (sp_move Has.cst) ?_
   refine .done ⟨by kernel_rfl, fun a10 g W10 y10 zz10 hk hg hV hR hP => ?_⟩
   obtain ⟨e13, e12, -, -⟩ := hV
   replace e0 := (hR 0 rfl).trans e0
   replace e1 := (hR 1 rfl).trans e1
   replace D_v := D_v.ext hk
   replace D_u := D_u.ext hk
   have e12 : sl a10 12 = (.int .i64 (ns.length)) := e12
   have e13 : sl a10 13 = (.int .i64 (0)) := e13
   replace kw := kw.x hk
   clear hR hk hg hP
   refine tail_nil (hK9 _ _ ?_)
   refine wp_block ?_
   refine wp_for (ns.length) (fun k a W => a.tmps.size = 26 ∧ a.defers = [] ∧ Keeps All w W ∧ sl a 0 = (.slice va (ns.length) vc) ∧ sl a 1 = (.slice ua (ms.length) uc) ∧ sl a 12 = (.int .i64 (ns.length)) ∧ sl a 13 = (.int .i64 ((k : Nat))) ∧ Rd W (SA w S []) (strsD (ns)) (.slice va (ns.length) vc) ∧ Rd W (SA w S []) (strsD (ms)) (.slice ua (ms.length) uc) ∧ (∀ i (h1 : i < ns.length) (h2 : i < ms.length), i < k → ns[i] = ms[i])) ⟨y10, zz10, kw, e0, e1, e12, (e13.trans (congrArg (Value.int .i64) (rfl))), D_v, D_u, fun i h1 h2 hi => absurd hi (by omega)⟩ ?_
   clear kw e0 e1 e12 e13 D_v D_u
   rintro k a11 W11 hkk ⟨y11, zz11, kw, e0, e1, e12, e13, D_v, D_u, hinv⟩
   refine wp_seq_k fun K12 hK12 => ?_
   refine rg mixed y11 zz11 ?_
   refine .i (sp_lss (hbs rfl e13) (hbs rfl e12)) ?_
   refine .done ⟨by kernel_rfl, fun a13 g W13 y13 zz13 hk hg hV hR hP => ?_⟩
   obtain ⟨e14, -⟩ := hV
   replace e0 := (hR 0 rfl).trans e0
   replace e1 := (hR 1 rfl).trans e1
   replace e12 := (hR 12 rfl).trans e12
   replace e13 := (hR 13 rfl).trans e13
   replace D_v := D_v.ext hk
   replace D_u := D_u.ext hk
   replace e14 := e14.q
   replace kw := kw.x hk
   clear hR hk hg hP
   refine tail_nil (hK12 _ _ ?_)
   refine wp_seq_k fun K14 hK14 => ?_
   refine wp_cond_split e14 (fun hc => ?_) (fun hc => ?_)
   ·
    have hlt : k < ns.length := by simpa using hc
    refine wp_skip (hK14 _ _ ?_)
    refine wp_seq_k fun K15 hK15 => ?_
    refine wp_block ?_
    refine wp_seq_k fun K16 hK16 => ?_
    refine rg mixed y13 zz13 ?_
    refine .i (sp_move (hbs rfl e13)) ?_
    refine .i (sp_assign (hlc rfl)) ?_
    refine .done ⟨by kernel_rfl, fun a17 g W17 y17 zz17 hk hg hV hR hP => ?_⟩
    obtain ⟨e5, -, -⟩ := hV
    replace e0 := (hR 0 rfl).trans e0
    replace e1 := (hR 1 rfl).trans e1
    replace e12 := (hR 12 rfl).trans e12
    replace e13 := (hR 13 rfl).trans e13
    replace D_v := D_v.ext hk
    replace D_u := D_u.ext hk
    have e5 : sl a17 5 = (.int .i64 ((k : Nat))) := e5
    replace kw := kw.x hk
    clear hR hk hg hP
    refine tail_nil (hK16 _ _ ?_)
    refine wp_seq_k fun K18 hK18 => ?_
    refine rg mixed y17 zz17 ?_
    refine .i (sp_move (hbs rfl e0)) ?_
    refine .i (sp_move (hbs rfl e5)) ?_
    refine .rf (sp_indexS (i := k) ((hlc rfl).dat D_v sub_all) (hlc rfl) Try.underlying23 sz9 rfl hlt) ?_
    refine .i (sp_loadStr (hlc rfl) agg9 sz9) ?_
    refine .i (sp_move (hbs rfl e1)) ?_
    refine .i (sp_move (hbs rfl e5)) ?_
    refine .rf (sp_indexS (i := k) ((hlc rfl).dat D_u sub_all) (hlc rfl) Try.underlying23 sz9 rfl (by omega)) ?_
    refine .i (sp_loadStr (hlc rfl) agg9 sz9) ?_
    refine .i (sp_sNeq (hlc rfl) (hlc rfl)) ?_
    refine .done ⟨by kernel_rfl, fun a19 g W19 y19 zz19 hk hg hV hR hP => ?_⟩
    obtain ⟨e24, -, -, -, -, -, -, -, -, -⟩ := hV
    replace e0 := (hR 0 rfl).trans e0
    replace e1 := (hR 1 rfl).trans e1
    replace e12 := (hR 12 rfl).trans e12
    replace e13 := (hR 13 rfl).trans e13
    replace D_v := D_v.ext hk
    replace D_u := D_u.ext hk
    replace e24 := e24.q
    replace kw := kw.x hk
    clear hR hk hg hP
    refine tail_nil (hK18 _ _ ?_)
    refine wp_cond_split e24 (fun hc => ?_) (fun hc => ?_)
    ·
     have hfin : decide (ns = ms) = false := decide_eq_false fun h => by subst h; simp at hc
     refine wp_seq_k fun K20 hK20 => ?_
     refine rg mixed y19 zz19 ?_
     refine .i (sp_assign Has.cst) ?_
     refine .done ⟨by kernel_rfl, fun a21 g W21 y21 zz21 hk hg hV hR hP => ?_⟩
     obtain ⟨e4, -⟩ := hV
     replace D_v := D_v.ext hk
     replace D_u := D_u.ext hk
     have e4 : sl a21 4 = (.bool (false)) := e4
     replace kw := kw.x hk
     clear hR hk hg hP
     refine tail_nil (hK20 _ _ ?_)
     refine wp_ret ?_
     refine (show bodyPost Try.prog Try.f127 _ .ret _ _ from ret1 rfl zz21 e4 ⟨_, rfl, kw, ?_⟩)
     rw [hfin]
    ·
     have hk1 : ns[k] = ms[k] := by simpa using hc
     refine wp_skip (hK15 _ _ ?_)
     refine rg mixed y19 zz19 ?_
     refine .i (sp_add (hbs rfl e13) Has.cst (i64_in (by omega))) ?_
     refine .i (sp_move (hlc rfl)) ?_
     refine .done ⟨by kernel_rfl, fun a22 g W22 y22 zz22 hk hg hV hR hP => ?_⟩
     obtain ⟨e13, -, -⟩ := hV
     replace e0 := (hR 0 rfl).trans e0
     replace e1 := (hR 1 rfl).trans e1
     replace e12 := (hR 12 rfl).trans e12
     replace D_v := D_v.ext hk
     replace D_u := D_u.ext hk
     replace e13 := e13.q
     replace kw := kw.x hk
     clear hR hk hg hP
     exact tail_nil ⟨hlt, y22, zz22, kw, e0, e1, e12, (e13.trans (congrArg (Value.int .i64) (by simp))), D_v, D_u, fun i h1 h2 hi => by rcases Nat.lt_succ_iff_lt_or_eq.1 hi with h | h; exact hinv i h1 h2 h; subst h; exact hk1⟩
   ·
    have hge0 : ¬ k < ns.length := by simpa using hc
    have hge : k = ns.length := by omega
    have hfin : decide (ns = ms) = true := decide_eq_true (List.ext_getElem hll fun i h1 h2 => hinv i h1 h2 (by omega))
    refine wp_exit (hK8 _ _ ?_)
    refine wp_seq_k fun K23 hK23 => ?_
    refine rg mixed y13 zz13 ?_
    refine .i (sp_assign Has.cst) ?_
    refine .done ⟨by kernel_rfl, fun a24 g W24 y24 zz24 hk hg hV hR hP => ?_⟩
    obtain ⟨e4, -⟩ := hV
    replace D_v := D_v.ext hk
    replace D_u := D_u.ext hk
    have e4 : sl a24 4 = (.bool (true)) := e4
    replace kw := kw.x hk
    clear hR hk hg hP
    refine tail_nil (hK23 _ _ ?_)
    refine wp_ret ?_
    refine (show bodyPost Try.prog Try.f127 _ .ret _ _ from ret1 rfl zz24 e4 ⟨_, rfl, kw, ?_⟩)
    rw [hfin]
set_option maxRecDepth 100000 in
theorem endless_all : ∀ (n : Nat) (xs : List V), V.cnts xs < n → ∀ (level : Int), 0 ≤ level → level + n ≤ 4294967296 → ∀ (nested : Bool) (p : Value) (w : World) (S : BSet) (v : Value), (∀ b o, S b o → Cln o) → Rd w S (valsD xs) v → Above w S xs p →
    Calls Try.prog 137 #[v, .int .i64 level, p, .bool nested] w (Ret w fun u _ => u = .bool false) := by
  intro n
  induction n with
  | zero => intro xs hx; omega
  | succ n ih =>
  intro xs hx level hl0 hl nested p w S v hS hv hab
  have hmx : xs.length ≤ maxLen := rd_len hv
  simp only [maxLen] at hmx
  rcases hab with rfl | ⟨y, hy, hcy⟩
  · skip
    obtain ⟨va, vc, ev, D_v⟩ := rdVs_out (rd_arg hv)
    subst ev
    refine enter Try.func137 rfl Try.ntmps137 (lbr rfl) fun a0 y0 zz0 harg => ?_
    have e0 : sl a0 0 = (.slice va (xs.length) vc) := harg 0 (lbr rfl)
    have e1 : sl a0 1 = (.int .i64 (level)) := harg 1 (lbr rfl)
    have e2 : sl a0 2 = (.pointer none) := harg 2 (lbr rfl)
    have e3 : sl a0 3 = (.bool (nested)) := harg 3 (lbr rfl)
    have kw := Keeps.refl All w
    clear harg
    refine wp_seq_k fun K1 hK1 => ?_
    refine rg mixed y0 zz0 ?_
    refine .i (sp_assign Has.cst) ?_
    refine .done ⟨by kernel_rfl, fun a2 g W2 y2 zz2 hk hg hV hR hP => ?_⟩
    obtain ⟨-, -⟩ := hV
    replace e0 := (hR 0 rfl).trans e0
    replace e1 := (hR 1 rfl).trans e1
    replace e2 := (hR 2 rfl).trans e2
    replace e3 := (hR 3 rfl).trans e3
    replace D_v := D_v.ext hk
    replace kw := kw.x hk
    clear hR hk hg hP
    refine tail_nil (hK1 _ _ ?_)
    refine wp_seq_k fun K3 hK3 => ?_
    refine wp_seq_k fun K4 hK4 => ?_
    refine rg mixed y2 zz2 ?_
    refine .i (sp_move (hbs rfl e0)) ?_
    refine .i (sp_lenVs Try.underlying31 ((hlc rfl).dat D_v sub_all)) ?_
    refine .i (sp_move Has.cst) ?_
    refine .done ⟨by kernel_rfl, fun a5 g W5 y5 zz5 hk hg hV hR hP => ?_⟩
    obtain ⟨e14, e13, -, -⟩ := hV
    replace e0 := (hR 0 rfl).trans e0
    replace e1 := (hR 1 rfl).trans e1
    replace e2 := (hR 2 rfl).trans e2
    replace e3 := (hR 3 rfl).trans e3
    replace D_v := D_v.ext hk
    have e13 : sl a5 13 = (.int .i64 (xs.length)) := e13
    have e14 : sl a5 14 = (.int .i64 (0)) := e14
    replace kw := kw.x hk
    clear hR hk hg hP
    refine tail_nil (hK4 _ _ ?_)
    refine wp_block ?_
    refine wp_for (xs.length) (fun k a W => a.tmps.size = 55 ∧ a.defers = [] ∧ Keeps All w W ∧ sl a 0 = (.slice va (xs.length) vc) ∧ sl a 1 = (.int .i64 (level)) ∧ sl a 2 = (.pointer none) ∧ sl a 3 = (.bool (nested)) ∧ sl a 13 = (.int .i64 (xs.length)) ∧ sl a 14 = (.int .i64 ((k : Nat))) ∧ Rd W (SA w S []) (valsD (xs)) (.slice va (xs.length) vc)) ⟨y5, zz5, kw, e0, e1, e2, e3, e13, (e14.trans (congrArg (Value.int .i64) (rfl))), D_v⟩ ?_
    clear kw e0 e1 e2 e3 e13 e14 D_v
    rintro k a6 W6 hkk ⟨y6, zz6, kw, e0, e1, e2, e3, e13, e14, D_v⟩
    refine wp_seq_k fun K7 hK7 => ?_
    refine rg mixed y6 zz6 ?_
    refine .i (sp_lss (hbs rfl e14) (hbs rfl e13)) ?_
    refine .done ⟨by kernel_rfl, fun a8 g W8 y8 zz8 hk hg hV hR hP => ?_⟩
    obtain ⟨e15, -⟩ := hV
    replace e0 := (hR 0 rfl).trans e0
    replace e1 := (hR 1 rfl).trans e1
    replace e2 := (hR 2 rfl).trans e2
    replace e3 := (hR 3 rfl).trans e3
    replace e13 := (hR 13 rfl).trans e13
    replace e14 := (hR 14 rfl).trans e14
    replace D_v := D_v.ext hk
    replace e15 := e15.q
    replace kw := kw.x hk
    clear hR hk hg hP
    refine tail_nil (hK7 _ _ ?_)
    refine wp_seq_k fun K9 hK9 => ?_
    refine wp_cond_split e15 (fun hc => ?_) (fun hc => ?_)
    ·
     have hlt : k < xs.length := by simpa using hc
     have hce := cnt_elem hlt
     have hcq := cnt_eq xs[k]
     refine wp_skip (hK9 _ _ ?_)
     refine wp_seq_k fun K10 hK10 => ?_
     refine wp_block ?_
     refine wp_seq_k fun K11 hK11 => ?_
     refine rg mixed y8 zz8 ?_
     refine .i (sp_move (hbs rfl e14)) ?_
     refine .i (sp_assign (hlc rfl)) ?_
     refine .done ⟨by kernel_rfl, fun a12 g W12 y12 zz12 hk hg hV hR hP => ?_⟩
     obtain ⟨e9, -, -⟩ := hV
     replace e0 := (hR 0 rfl).trans e0
     replace e1 := (hR 1 rfl).trans e1
     replace e2 := (hR 2 rfl).trans e2
     replace e3 := (hR 3 rfl).trans e3
     replace e13 := (hR 13 rfl).trans e13
     replace e14 := (hR 14 rfl).trans e14
     replace D_v := D_v.ext hk
     have e9 : sl a12 9 = (.int .i64 ((k : Nat))) := e9
     replace kw := kw.x hk
     clear hR hk hg hP
     refine tail_nil (hK11 _ _ ?_)
     refine wp_seq_k fun K13 hK13 => ?_
     refine rg mixed y12 zz12 ?_
     refine .i (sp_move (hbs rfl e0)) ?_
     refine .i (sp_move (hbs rfl e9)) ?_
     refine .rf (sp_indexV (i := k) ((hlc rfl).dat D_v sub_all) (hlc rfl) Try.underlying31 sz33 rfl hlt) ?_
     refine .rf (X := SA w S []) (e := V.d (xs[k]'hlt)) (sp_assign (hlc rfl)) ?_
     refine .done ⟨by kernel_rfl, fun a14 g W14 y14 zz14 hk hg hV hR hP => ?_⟩
     obtain ⟨e10, -, -, -, -⟩ := hV
     replace e0 := (hR 0 rfl).trans e0
     replace e1 := (hR 1 rfl).trans e1
     replace e2 := (hR 2 rfl).trans e2
     replace e3 := (hR 3 rfl).trans e3
     replace e13 := (hR 13 rfl).trans e13
     replace e14 := (hR 14 rfl).trans e14
     replace D_v := D_v.ext hk
     obtain ⟨v10_14, ev⟩ : ∃ v, sl a14 10 = v := ⟨_, rfl⟩
     rw [ev] at e10
     have D_v10_14 : Ref W14 (SA w S []) (V.d (xs[k]'hlt)) v10_14 := rsa_end e10 hk [] in_nil
     replace e10 := ev; clear ev
     replace kw := kw.x hk
     clear hR hk hg hP
     refine tail_nil (hK13 _ _ ?_)
     refine wp_seq_k fun K15 hK15 => ?_
     refine wp_seq_k fun K16 hK16 => ?_
     refine rg mixed y14 zz14 ?_
     refine .i (sp_move (hbs rfl e3)) ?_
     refine .i (sp_move (hlc rfl)) ?_
     refine .e (t := 21) rfl (hlc rfl) (fun hg => sp_move (hbs rfl e10)) ?_
     refine .opE (t := 21) (φ := IsR (SA w S []) (V.d (xs[k]'hlt))) rfl (hlc rfl) (st_r sub_all) (fun hg => sp_nilR (((hlc rfl).undE hg).refd D_v10_14 sub_all)) ?_
     refine .opE (t := 21) (φ := IsR (SA w S []) (D.int .u8 ((xs[k]'hlt).k))) rfl (hlc rfl) (st_r sub_all) (fun hg => sp_fieldV ((hlc rfl).undE hg) Try.underlying33 rfl sz5 rfl rfl) ?_
     refine .e (t := 21) rfl (hlc rfl) (fun hg => sp_loadInt ((hlc rfl).undE hg) agg5 sz5) ?_
     refine .e (t := 21) rfl (hlc rfl) (fun hg => sp_neq ((hlc rfl).undE hg) Has.cst) ?_
     refine .i (sp_and (hlc rfl) ((hlc rfl).weak fun hq => hq)) ?_
     refine .i (sp_move (hlc rfl)) ?_
     refine .e (t := 28) rfl (hlc rfl) (fun hg => sp_move (hbs rfl e10)) ?_
     refine .opE (t := 28) (φ := IsR (SA w S []) (V.d (xs[k]'hlt))) rfl (hlc rfl) (st_r sub_all) (fun hg => sp_nilR (((hlc rfl).undE hg).refd D_v10_14 sub_all)) ?_
     refine .opE (t := 28) (φ := IsR (SA w S []) (D.int .u8 ((xs[k]'hlt).k))) rfl (hlc rfl) (st_r sub_all) (fun hg => sp_fieldV ((hlc rfl).undE hg) Try.underlying33 rfl sz5 rfl rfl) ?_
     refine .e (t := 28) rfl (hlc rfl) (fun hg => sp_loadInt ((hlc rfl).undE hg) agg5 sz5) ?_
     refine .e (t := 28) rfl (hlc rfl) (fun hg => sp_neq ((hlc rfl).undE hg) Has.cst) ?_
     refine .i (sp_and (hlc rfl) ((hlc rfl).weak fun hq => hq)) ?_
     refine .done ⟨by kernel_rfl, fun a17 g W17 y17 zz17 hk hg hV hR hP => ?_⟩
     obtain ⟨e34, -, -, -, -, -, -, -, -, -, -, -, -, -, -, -⟩ := hV
     replace e0 := (hR 0 rfl).trans e0
     replace e1 := (hR 1 rfl).trans e1
     replace e2 := (hR 2 rfl).trans e2
     replace e3 := (hR 3 rfl).trans e3
     replace e13 := (hR 13 rfl).trans e13
     replace e14 := (hR 14 rfl).trans e14
     replace e10 := (hR 10 rfl).trans e10
     replace D_v := D_v.ext hk
     replace D_v10_14 := D_v10_14.ext hk
     replace e34 := e34.q
     replace kw := kw.x hk
     clear hR hk hg hP
     refine tail_nil (hK16 _ _ ?_)
     refine wp_cond_split e34 (fun hc => ?_) (fun hc => ?_)
     ·
      refine wp_exit (hK10 _ _ ?_)
      refine rg mixed y17 zz17 ?_
      refine .i (sp_add (hbs rfl e14) Has.cst (i64_in (by omega))) ?_
      refine .i (sp_move (hlc rfl)) ?_
      refine .done ⟨by kernel_rfl, fun a18 g W18 y18 zz18 hk hg hV hR hP => ?_⟩
      obtain ⟨e14, -, -⟩ := hV
      replace e0 := (hR 0 rfl).trans e0
      replace e1 := (hR 1 rfl).trans e1
      replace e2 := (hR 2 rfl).trans e2
      replace e3 := (hR 3 rfl).trans e3
      replace e13 := (hR 13 rfl).trans e13
      replace D_v := D_v.ext hk
      replace D_v10_14 := D_v10_14.ext hk
      replace e14 := e14.q
      replace kw := kw.x hk
      clear hR hk hg hP
      exact tail_nil ⟨hlt, y18, zz18, kw, e0, e1, e2, e3, e13, (e14.trans (congrArg (Value.int .i64) (by simp))), D_v⟩
     ·
      refine wp_skip (hK15 _ _ ?_)
      refine wp_seq_k fun K19 hK19 => ?_
      refine wp_seq_k fun K20 hK20 => ?_
      refine rg mixed y17 zz17 ?_
      refine .i (sp_move (hbs rfl e10)) ?_
      refine .i (sp_move (hbs rfl e2)) ?_
      refine .i (v := (.bool (false))) (sp_refNil Try.underlying186 ((hlc rfl).refd D_v10_14 sub_all) (hlc rfl)) ?_
      refine .done ⟨by kernel_rfl, fun a21 g W21 y21 zz21 hk hg hV hR hP => ?_⟩
      obtain ⟨e37, -, -, -⟩ := hV
      replace e0 := (hR 0 rfl).trans e0
      replace e1 := (hR 1 rfl).trans e1
      replace e2 := (hR 2 rfl).trans e2
      replace e3 := (hR 3 rfl).trans e3
      replace e13 := (hR 13 rfl).trans e13
      replace e14 := (hR 14 rfl).trans e14
      replace e10 := (hR 10 rfl).trans e10
      replace D_v := D_v.ext hk
      replace D_v10_14 := D_v10_14.ext hk
      have e37 : sl a21 37 = (.bool (false)) := e37
      replace kw := kw.x hk
      clear hR hk hg hP
      refine tail_nil (hK20 _ _ ?_)
      refine wp_cond_false e37 ?_
      refine wp_skip (hK19 _ _ ?_)
      refine wp_seq_k fun K22 hK22 => ?_
      refine rg mixed y21 zz21 ?_
      refine .i (sp_move (hbs rfl e2)) ?_
      refine .i (sp_assign (hlc rfl)) ?_
      refine .done ⟨by kernel_rfl, fun a23 g W23 y23 zz23 hk hg hV hR hP => ?_⟩
      obtain ⟨e11, -, -⟩ := hV
      replace e0 := (hR 0 rfl).trans e0
      replace e1 := (hR 1 rfl).trans e1
      replace e2 := (hR 2 rfl).trans e2
      replace e3 := (hR 3 rfl).trans e3
      replace e13 := (hR 13 rfl).trans e13
      replace e14 := (hR 14 rfl).trans e14
      replace e10 := (hR 10 rfl).trans e10
      replace D_v := D_v.ext hk
      replace D_v10_14 := D_v10_14.ext hk
      have e11 : sl a23 11 = (.pointer none) := e11
      replace kw := kw.x hk
      clear hR hk hg hP
      refine tail_nil (hK22 _ _ ?_)
      refine wp_seq_k fun K24 hK24 => ?_
      refine wp_seq_k fun K25 hK25 => ?_
      refine rg mixed y23 zz23 ?_
      refine .i (sp_move (hbs rfl e1)) ?_
      refine .i (sp_move (hbs rfl e1)) ?_
      refine .i (sp_sub (hlc rfl) Has.cst (i64_in (by omega))) ?_
      refine .i (sp_band (hlc rfl) (hlc rfl)) ?_
      refine .i (sp_eql (hlc rfl) Has.cst) ?_
      refine .done ⟨by kernel_rfl, fun a26 g W26 y26 zz26 hk hg hV hR hP => ?_⟩
      obtain ⟨e43, -, -, -, -, -⟩ := hV
      replace e0 := (hR 0 rfl).trans e0
      replace e1 := (hR 1 rfl).trans e1
      replace e2 := (hR 2 rfl).trans e2
      replace e3 := (hR 3 rfl).trans e3
      replace e13 := (hR 13 rfl).trans e13
      replace e14 := (hR 14 rfl).trans e14
      replace e10 := (hR 10 rfl).trans e10
      replace e11 := (hR 11 rfl).trans e11
      replace D_v := D_v.ext hk
      replace D_v10_14 := D_v10_14.ext hk
      replace e43 := e43.q
      replace kw := kw.x hk
      clear hR hk hg hP
      refine tail_nil (hK25 _ _ ?_)
      refine wp_cond_split e43 (fun hc => ?_) (fun hc => ?_)
      ·
       refine rg mixed y26 zz26 ?_
       refine .i (sp_move (hbs rfl e10)) ?_
       refine .i (sp_assign (hlc rfl)) ?_
       refine .done ⟨by kernel_rfl, fun a27 g W27 y27 zz27 hk hg hV hR hP => ?_⟩
       obtain ⟨e11, -, -⟩ := hV
       replace e0 := (hR 0 rfl).trans e0
       replace e1 := (hR 1 rfl).trans e1
       replace e2 := (hR 2 rfl).trans e2
       replace e3 := (hR 3 rfl).trans e3
       replace e13 := (hR 13 rfl).trans e13
       replace e14 := (hR 14 rfl).trans e14
       replace e10 := (hR 10 rfl).trans e10
       replace D_v := D_v.ext hk
       replace D_v10_14 := D_v10_14.ext hk
       have e11 : sl a27 11 = v10_14 := e11
       replace kw := kw.x hk
       clear hR hk hg hP
       refine tail_nil (hK24 _ _ ?_)
       refine wp_seq_k fun K28 hK28 => ?_
       refine rg mixed y27 zz27 ?_
       refine .i (sp_move (hbs rfl e10)) ?_
       refine .rf (sp_nilR ((hlc rfl).refd D_v10_14 sub_all)) ?_
       refine .rf (X := SA w S []) (e := valsD ((xs[k]'hlt).xs)) (sp_fieldV (hlc rfl) Try.underlying33 rfl sz31 rfl rfl) ?_
       refine .da (X := SA w S []) (e := valsD ((xs[k]'hlt).xs)) (sp_loadR (hlc rfl) agg31 sz31 rfl) ?_
       refine .i (sp_move (hbs rfl e1)) ?_
       refine .i (sp_add (hlc rfl) Has.cst (i64_in (by omega))) ?_
       refine .i (sp_move (hbs rfl e11)) ?_
       refine .i (sp_move (hbs rfl e3)) ?_
       refine .i (v := (.bool (false))) (sp_call4 (φ1 := IsD (SA w S []) (valsD ((xs[k]'hlt).xs))) (φ2 := Is (.int .i64 ((level : Int) + (1 : Int)))) (φ3 := IsR (SA w S []) (V.d (xs[k]'hlt))) (φ4 := Is (.bool (nested))) ent137 (hlc rfl) (hlc rfl) ((hlc rfl).refd D_v10_14 sub_all) (hlc rfl) (fun g u1 u2 u3 u4 W hk hgk h1 h2 h3 h4 => by have h2 : u2 = _ := h2; subst u2; have h4 : u4 = _ := h4; subst u4; exact ih ((xs[k]'hlt).xs) (by omega) ((level : Int) + (1 : Int)) (by omega) (by omega) (nested) _ W _ _ (fun b o h => sa_cln hS b o h.1) h1 (Or.inr ⟨_, h3, by omega⟩))) ?_
       refine .done ⟨by kernel_rfl, fun a29 g W29 y29 zz29 hk hg hV hR hP => ?_⟩
       obtain ⟨e53, -, -, -, -, -, -, -, -, -⟩ := hV
       replace e0 := (hR 0 rfl).trans e0
       replace e1 := (hR 1 rfl).trans e1
       replace e2 := (hR 2 rfl).trans e2
       replace e3 := (hR 3 rfl).trans e3
       replace e13 := (hR 13 rfl).trans e13
       replace e14 := (hR 14 rfl).trans e14
       replace D_v := D_v.ext hk
       replace D_v10_14 := D_v10_14.ext hk
       have e53 : sl a29 53 = (.bool (false)) := e53
       replace kw := kw.x hk
       clear hR hk hg hP
       refine tail_nil (hK28 _ _ ?_)
       refine wp_cond_false e53 ?_
       refine wp_skip (hK10 _ _ ?_)
       refine rg mixed y29 zz29 ?_
       refine .i (sp_add (hbs rfl e14) Has.cst (i64_in (by omega))) ?_
       refine .i (sp_move (hlc rfl)) ?_
       refine .done ⟨by kernel_rfl, fun a30 g W30 y30 zz30 hk hg hV hR hP => ?_⟩
       obtain ⟨e14, -, -⟩ := hV
       replace e0 := (hR 0 rfl).trans e0
       replace e1 := (hR 1 rfl).trans e1
       replace e2 := (hR 2 rfl).trans e2
       replace e3 := (hR 3 rfl).trans e3
       replace e13 := (hR 13 rfl).trans e13
       replace D_v := D_v.ext hk
       replace e14 := e14.q
       replace kw := kw.x hk
       clear hR hk hg hP
       exact tail_nil ⟨hlt, y30, zz30, kw, e0, e1, e2, e3, e13, (e14.trans (congrArg (Value.int .i64) (by simp))), D_v⟩
      ·
       refine wp_skip (hK24 _ _ ?_)
       refine wp_seq_k fun K31 hK31 => ?_
       refine rg mixed y26 zz26 ?_
       refine .i (sp_move (hbs rfl e10)) ?_
       refine .rf (sp_nilR ((hlc rfl).refd D_v10_14 sub_all)) ?_
       refine .rf (X := SA w S []) (e := valsD ((xs[k]'hlt).xs)) (sp_fieldV (hlc rfl) Try.underlying33 rfl sz31 rfl rfl) ?_
       refine .da (X := SA w S []) (e := valsD ((xs[k]'hlt).xs)) (sp_loadR (hlc rfl) agg31 sz31 rfl) ?_
       refine .i (sp_move (hbs rfl e1)) ?_
       refine .i (sp_add (hlc rfl) Has.cst (i64_in (by omega))) ?_
       refine .i (sp_move (hbs rfl e11)) ?_
       refine .i (sp_move (hbs rfl e3)) ?_
       refine .i (v := (.bool (false))) (sp_call4 (φ1 := IsD (SA w S []) (valsD ((xs[k]'hlt).xs))) (φ2 := Is (.int .i64 ((level : Int) + (1 : Int)))) (φ3 := Is (.pointer none)) (φ4 := Is (.bool (nested))) ent137 (hlc rfl) (hlc rfl) (hlc rfl) (hlc rfl) (fun g u1 u2 u3 u4 W hk hgk h1 h2 h3 h4 => by have h2 : u2 = _ := h2; subst u2; have h3 : u3 = _ := h3; subst u3; have h4 : u4 = _ := h4; subst u4; exact ih ((xs[k]'hlt).xs) (by omega) ((level : Int) + (1 : Int)) (by omega) (by omega) (nested) _ W _ _ (fun b o h => sa_cln hS b o h.1) h1 (Or.inl rfl))) ?_
       refine .done ⟨by kernel_rfl, fun a32 g W32 y32 zz32 hk hg hV hR hP => ?_⟩
       obtain ⟨e53, -, -, -, -, -, -, -, -, -⟩ := hV
       replace e0 := (hR 0 rfl).trans e0
       replace e1 := (hR 1 rfl).trans e1
       replace e2 := (hR 2 rfl).trans e2
       replace e3 := (hR 3 rfl).trans e3
       replace e13 := (hR 13 rfl).trans e13
       replace e14 := (hR 14 rfl).trans e14
       replace D_v := D_v.ext hk
       replace D_v10_14 := D_v10_14.ext hk
       have e53 : sl a32 53 = (.bool (false)) := e53
       replace kw := kw.x hk
       clear hR hk hg hP
       refine tail_nil (hK31 _ _ ?_)
       refine wp_cond_false e53 ?_
       refine wp_skip (hK10 _ _ ?_)
       refine rg mixed y32 zz32 ?_
       refine .i (sp_add (hbs rfl e14) Has.cst (i64_in (by omega))) ?_
       refine .i (sp_move (hlc rfl)) ?_
       refine .done ⟨by kernel_rfl, fun a33 g W33 y33 zz33 hk hg hV hR hP => ?_⟩
       obtain ⟨e14, -, -⟩ := hV
       replace e0 := (hR 0 rfl).trans e0
       replace e1 := (hR 1 rfl).trans e1
       replace e2 := (hR 2 rfl).trans e2
       replace e3 := (hR 3 rfl).trans e3
       replace e13 := (hR 13 rfl).trans e13
       replace D_v := D_v.ext hk
       replace e14 := e14.q
       replace kw := kw.x hk
       clear hR hk hg hP
       exact tail_nil ⟨hlt, y33, zz33, kw, e0, e1, e2, e3, e13, (e14.trans (congrArg (Value.int .i64) (by simp))), D_v⟩
    ·
     have hge0 : ¬ k < xs.length := by simpa using hc
     have hge : k = xs.length := by omega
     refine wp_exit (hK3 _ _ ?_)
     refine wp_seq_k fun K34 hK34 => ?_
     refine rg mixed y8 zz8 ?_
     refine .i (sp_assign Has.cst) ?_
     refine .done ⟨by kernel_rfl, fun a35 g W35 y35 zz35 hk hg hV hR hP => ?_⟩
     obtain ⟨e8, -⟩ := hV
     replace D_v := D_v.ext hk
     have e8 : sl a35 8 = (.bool (false)) := e8
     replace kw := kw.x hk
     clear hR hk hg hP
     refine tail_nil (hK34 _ _ ?_)
     refine wp_ret ?_
     refine (show bodyPost Try.prog Try.f137 _ .ret _ _ from ret1 rfl zz35 e8 ⟨_, rfl, kw, ?_⟩)
     exact rfl
  · skip
    obtain ⟨va, vc, ev, D_v⟩ := rdVs_out (rd_arg hv)
    subst ev
    have D_p := ref_arg hy
    refine enter Try.func137 rfl Try.ntmps137 (lbr rfl) fun a0 y0 zz0 harg => ?_
    have e0 : sl a0 0 = (.slice va (xs.length) vc) := harg 0 (lbr rfl)
    have e1 : sl a0 1 = (.int .i64 (level)) := harg 1 (lbr rfl)
    have e2 : sl a0 2 = p := harg 2 (lbr rfl)
    have e3 : sl a0 3 = (.bool (nested)) := harg 3 (lbr rfl)
    have kw := Keeps.refl All w
    clear harg
    refine wp_seq_k fun K1 hK1 => ?_
    refine rg mixed y0 zz0 ?_
    refine .i (sp_assign Has.cst) ?_
    refine .done ⟨by kernel_rfl, fun a2 g W2 y2 zz2 hk hg hV hR hP => ?_⟩
    obtain ⟨-, -⟩ := hV
    replace e0 := (hR 0 rfl).trans e0
    replace e1 := (hR 1 rfl).trans e1
    replace e2 := (hR 2 rfl).trans e2
    replace e3 := (hR 3 rfl).trans e3
    replace D_v := D_v.ext hk
    replace D_p := D_p.ext hk
    replace kw := kw.x hk
    clear hR hk hg hP
    refine tail_nil (hK1 _ _ ?_)
    refine wp_seq_k fun K3 hK3 => ?_
    refine wp_seq_k fun K4 hK4 => ?_
    refine rg mixed y2 zz2 ?_
    refine .i (sp_move (hbs rfl e0)) ?_
    refine .i (sp_lenVs Try.underlying31 ((hlc rfl).dat D_v sub_all)) ?_
    refine .i (sp_move Has.cst) ?_
    refine .done ⟨by kernel_rfl, fun a5 g W5 y5 zz5 hk hg hV hR hP => ?_⟩
    obtain ⟨e14, e13, -, -⟩ := hV
    replace e0 := (hR 0 rfl).trans e0
    replace e1 := (hR 1 rfl).trans e1
    replace e2 := (hR 2 rfl).trans e2
    replace e3 := (hR 3 rfl).trans e3
    replace D_v := D_v.ext hk
    replace D_p := D_p.ext hk
    have e13 : sl a5 13 = (.int .i64 (xs.length)) := e13
    have e14 : sl a5 14 = (.int .i64 (0)) := e14
    replace kw := kw.x hk
    clear hR hk hg hP
    refine tail_nil (hK4 _ _ ?_)
    refine wp_block ?_
    refine wp_for (xs.length) (fun k a W => a.tmps.size = 55 ∧ a.defers = [] ∧ Keeps All w W ∧ sl a 0 = (.slice va (xs.length) vc) ∧ sl a 1 = (.int .i64 (level)) ∧ sl a 2 = p ∧ sl a 3 = (.bool (nested)) ∧ sl a 13 = (.int .i64 (xs.length)) ∧ sl a 14 = (.int .i64 ((k : Nat))) ∧ Rd W (SA w S []) (valsD (xs)) (.slice va (xs.length) vc) ∧ Ref W (SA w S []) (V.d (y)) p) ⟨y5, zz5, kw, e0, e1, e2, e3, e13, (e14.trans (congrArg (Value.int .i64) (rfl))), D_v, D_p⟩ ?_
    clear kw e0 e1 e2 e3 e13 e14 D_v D_p
    rintro k a6 W6 hkk ⟨y6, zz6, kw, e0, e1, e2, e3, e13, e14, D_v, D_p⟩
    refine wp_seq_k fun K7 hK7 => ?_
    refine rg mixed y6 zz6 ?_
    refine .i (sp_lss (hbs rfl e14) (hbs rfl e13)) ?_
    refine .done ⟨by kernel_rfl, fun a8 g W8 y8 zz8 hk hg hV hR hP => ?_⟩
    obtain ⟨e15, -⟩ := hV
    replace e0 := (hR 0 rfl).trans e0
    replace e1 := (hR 1 rfl).trans e1
    replace e2 := (hR 2 rfl).trans e2
    replace e3 := (hR 3 rfl).trans e3
    replace e13 := (hR 13 rfl).trans e13
    replace e14 := (hR 14 rfl).trans e14
    replace D_v := D_v.ext hk
    replace D_p := D_p.ext hk
    replace e15 := e15.q
    replace kw := kw.x hk
    clear hR hk hg hP
    refine tail_nil (hK7 _ _ ?_)
    refine wp_seq_k fun K9 hK9 => ?_
    refine wp_cond_split e15 (fun hc => ?_) (fun hc => ?_)
    ·
     have hlt : k < xs.length := by simpa using hc
     have hce := cnt_elem hlt
     have hcq := cnt_eq xs[k]
     refine wp_skip (hK9 _ _ ?_)
     refine wp_seq_k fun K10 hK10 => ?_
     refine wp_block ?_
     refine wp_seq_k fun K11 hK11 => ?_
     refine rg mixed y8 zz8 ?_
     refine .i (sp_move (hbs rfl e14)) ?_
     refine .i (sp_assign (hlc rfl)) ?_
     refine .done ⟨by kernel_rfl, fun a12 g W12 y12 zz12 hk hg hV hR hP => ?_⟩
     obtain ⟨e9, -, -⟩ := hV
     replace e0 := (hR 0 rfl).trans e0
     replace e1 := (hR 1 rfl).trans e1
     replace e2 := (hR 2 rfl).trans e2
     replace e3 := (hR 3 rfl).trans e3
     replace e13 := (hR 13 rfl).trans e13
     replace e14 := (hR 14 rfl).trans e14
     replace D_v := D_v.ext hk
     replace D_p := D_p.ext hk
     have e9 : sl a12 9 = (.int .i64 ((k : Nat))) := e9
     replace kw := kw.x hk
     clear hR hk hg hP
     refine tail_nil (hK11 _ _ ?_)
     refine wp_seq_k fun K13 hK13 => ?_
     refine rg mixed y12 zz12 ?_
     refine .i (sp_move (hbs rfl e0)) ?_
     refine .i (sp_move (hbs rfl e9)) ?_
     refine .rf (sp_indexV (i := k) ((hlc rfl).dat D_v sub_all) (hlc rfl) Try.underlying31 sz33 rfl hlt) ?_
     refine .rf (X := SA w S []) (e := V.d (xs[k]'hlt)) (sp_assign (hlc rfl)) ?_
     refine .done ⟨by kernel_rfl, fun a14 g W14 y14 zz14 hk hg hV hR hP => ?_⟩
     obtain ⟨e10, -, -, -, -⟩ := hV
     replace e0 := (hR 0 rfl).trans e0
     replace e1 := (hR 1 rfl).trans e1
     replace e2 := (hR 2 rfl).trans e2
     replace e3 := (hR 3 rfl).trans e3
     replace e13 := (hR 13 rfl).trans e13
     replace e14 := (hR 14 rfl).trans e14
     replace D_v := D_v.ext hk
     replace D_p := D_p.ext hk
     obtain ⟨v10_14, ev⟩ : ∃ v, sl a14 10 = v := ⟨_, rfl⟩
     rw [ev] at e10
     have D_v10_14 : Ref W14 (SA w S []) (V.d (xs[k]'hlt)) v10_14 := rsa_end e10 hk [] in_nil
     replace e10 := ev; clear ev
     replace kw := kw.x hk
     clear hR hk hg hP
     refine tail_nil (hK13 _ _ ?_)
     refine wp_seq_k fun K15 hK15 => ?_
     refine wp_seq_k fun K16 hK16 => ?_
     refine rg mixed y14 zz14 ?_
     refine .i (sp_move (hbs rfl e3)) ?_
     refine .i (sp_move (hlc rfl)) ?_
     refine .e (t := 21) rfl (hlc rfl) (fun hg => sp_move (hbs rfl e10)) ?_
     refine .opE (t := 21) (φ := IsR (SA w S []) (V.d (xs[k]'hlt))) rfl (hlc rfl) (st_r sub_all) (fun hg => sp_nilR (((hlc rfl).undE hg).refd D_v10_14 sub_all)) ?_
     refine .opE (t := 21) (φ := IsR (SA w S []) (D.int .u8 ((xs[k]'hlt).k))) rfl (hlc rfl) (st_r sub_all) (fun hg => sp_fieldV ((hlc rfl).undE hg) Try.underlying33 rfl sz5 rfl rfl) ?_
     refine .e (t := 21) rfl (hlc rfl) (fun hg => sp_loadInt ((hlc rfl).undE hg) agg5 sz5) ?_
     refine .e (t := 21) rfl (hlc rfl) (fun hg => sp_neq ((hlc rfl).undE hg) Has.cst) ?_
     refine .i (sp_and (hlc rfl) ((hlc rfl).weak fun hq => hq)) ?_
     refine .i (sp_move (hlc rfl)) ?_
     refine .e (t := 28) rfl (hlc rfl) (fun hg => sp_move (hbs rfl e10)) ?_
     refine .opE (t := 28) (φ := IsR (SA w S []) (V.d (xs[k]'hlt))) rfl (hlc rfl) (st_r sub_all) (fun hg => sp_nilR (((hlc rfl).undE hg).refd D_v10_14 sub_all)) ?_
     refine .opE (t := 28) (φ := IsR (SA w S []) (D.int .u8 ((xs[k]'hlt).k))) rfl (hlc rfl) (st_r sub_all) (fun hg => sp_fieldV ((hlc rfl).undE hg) Try.underlying33 rfl sz5 rfl rfl) ?_
     refine .e (t := 28) rfl (hlc rfl) (fun hg => sp_loadInt ((hlc rfl).undE hg) agg5 sz5) ?_
     refine .e (t := 28) rfl (hlc rfl) (fun hg => sp_neq ((hlc rfl).undE hg) Has.cst) ?_
     refine .i (sp_and (hlc rfl) ((hlc rfl).weak fun hq => hq)) ?_
     refine .done ⟨by kernel_rfl, fun a17 g W17 y17 zz17 hk hg hV hR hP => ?_⟩
     obtain ⟨e34, -, -, -, -, -, -, -, -, -, -, -, -, -, -, -⟩ := hV
     replace e0 := (hR 0 rfl).trans e0
     replace e1 := (hR 1 rfl).trans e1
     replace e2 := (hR 2 rfl).trans e2
     replace e3 := (hR 3 rfl).trans e3
     replace e13 := (hR 13 rfl).trans e13
     replace e14 := (hR 14 rfl).trans e14
     replace e10 := (hR 10 rfl).trans e10
     replace D_v := D_v.ext hk
     replace D_p := D_p.ext hk
     replace D_v10_14 := D_v10_14.ext hk
     replace e34 := e34.q
     replace kw := kw.x hk
     clear hR hk hg hP
     refine tail_nil (hK16 _ _ ?_)
     refine wp_cond_split e34 (fun hc => ?_) (fun hc => ?_)
     ·
      refine wp_exit (hK10 _ _ ?_)
      refine rg mixed y17 zz17 ?_
      refine .i (sp_add (hbs rfl e14) Has.cst (i64_in (by omega))) ?_
      refine .i (sp_move (hlc rfl)) ?_
      refine .done ⟨by kernel_rfl, fun a18 g W18 y18 zz18 hk hg hV hR hP => ?_⟩
      obtain ⟨e14, -, -⟩ := hV
      replace e0 := (hR 0 rfl).trans e0
      replace e1 := (hR 1 rfl).trans e1
      replace e2 := (hR 2 rfl).trans e2
      replace e3 := (hR 3 rfl).trans e3
      replace e13 := (hR 13 rfl).trans e13
      replace D_v := D_v.ext hk
      replace D_p := D_p.ext hk
      replace D_v10_14 := D_v10_14.ext hk
      replace e14 := e14.q
      replace kw := kw.x hk
      clear hR hk hg hP
      exact tail_nil ⟨hlt, y18, zz18, kw, e0, e1, e2, e3, e13, (e14.trans (congrArg (Value.int .i64) (by simp))), D_v, D_p⟩
     ·
      refine wp_skip (hK15 _ _ ?_)
      refine wp_seq_k fun K19 hK19 => ?_
      refine wp_seq_k fun K20 hK20 => ?_
      refine rg mixed y17 zz17 ?_
      refine .i (sp_move (hbs rfl e10)) ?_
      refine .i (sp_move (hbs rfl e2)) ?_
      refine .i (v := (.bool (false))) (sp_refEq Try.underlying186 sz33 ((hlc rfl).refd D_v10_14 sub_all) ((hlc rfl).refd D_p sub_all) (sa_cln hS) (sa_cln hS) (fun W X Y cs h1 h2 => by have := rdV_det _ _ cs h1 h2; have := congrArg V.cnt this; omega) (by rw [V.d_eq, V.d_eq]; rfl)) ?_
      refine .done ⟨by kernel_rfl, fun a21 g W21 y21 zz21 hk hg hV hR hP => ?_⟩
      obtain ⟨e37, -, -, -⟩ := hV
      replace e0 := (hR 0 rfl).trans e0
      replace e1 := (hR 1 rfl).trans e1
      replace e2 := (hR 2 rfl).trans e2
      replace e3 := (hR 3 rfl).trans e3
      replace e13 := (hR 13 rfl).trans e13
      replace e14 := (hR 14 rfl).trans e14
      replace e10 := (hR 10 rfl).trans e10
      replace D_v := D_v.ext hk
      replace D_p := D_p.ext hk
      replace D_v10_14 := D_v10_14.ext hk
      have e37 : sl a21 37 = (.bool (false)) := e37
      replace kw := kw.x hk
      clear hR hk hg hP
      refine tail_nil (hK20 _ _ ?_)
      refine wp_cond_false e37 ?_
      refine wp_skip (hK19 _ _ ?_)
      refine wp_seq_k fun K22 hK22 => ?_
      refine rg mixed y21 zz21 ?_
      refine .i (sp_move (hbs rfl e2)) ?_
      refine .i (sp_assign (hlc rfl)) ?_
      refine .done ⟨by kernel_rfl, fun a23 g W23 y23 zz23 hk hg hV hR hP => ?_⟩
      obtain ⟨e11, -, -⟩ := hV
      replace e0 := (hR 0 rfl).trans e0
      replace e1 := (hR 1 rfl).trans e1
      replace e2 := (hR 2 rfl).trans e2
      replace e3 := (hR 3 rfl).trans e3
      replace e13 := (hR 13 rfl).trans e13
      replace e14 := (hR 14 rfl).trans e14
      replace e10 := (hR 10 rfl).trans e10
      replace D_v := D_v.ext hk
      replace D_p := D_p.ext hk
      replace D_v10_14 := D_v10_14.ext hk
      have e11 : sl a23 11 = p := e11
      replace kw := kw.x hk
      clear hR hk hg hP
      refine tail_nil (hK22 _ _ ?_)
      refine wp_seq_k fun K24 hK24 => ?_
      refine wp_seq_k fun K25 hK25 => ?_
      refine rg mixed y23 zz23 ?_
      refine .i (sp_move (hbs rfl e1)) ?_
      refine .i (sp_move (hbs rfl e1)) ?_
      refine .i (sp_sub (hlc rfl) Has.cst (i64_in (by omega))) ?_
      refine .i (sp_band (hlc rfl) (hlc rfl)) ?_
      refine .i (sp_eql (hlc rfl) Has.cst) ?_
      refine .done ⟨by kernel_rfl, fun a26 g W26 y26 zz26 hk hg hV hR hP => ?_⟩
      obtain ⟨e43, -, -, -, -, -⟩ := hV
      replace e0 := (hR 0 rfl).trans e0
      replace e1 := (hR 1 rfl).trans e1
      replace e2 := (hR 2 rfl).trans e2
      replace e3 := (hR 3 rfl).trans e3
      replace e13 := (hR 13 rfl).trans e13
      replace e14 := (hR 14 rfl).trans e14
      replace e10 := (hR 10 rfl).trans e10
      replace e11 := (hR 11 rfl).trans e11
      replace D_v := D_v.ext hk
      replace D_p := D_p.ext hk
      replace D_v10_14 := D_v10_14.ext hk
      replace e43 := e43.q
      replace kw := kw.x hk
      clear hR hk hg hP
      refine tail_nil (hK25 _ _ ?_)
      refine wp_cond_split e43 (fun hc => ?_) (fun hc => ?_)
      ·
       refine rg mixed y26 zz26 ?_
       refine .i (sp_move (hbs rfl e10)) ?_
       refine .i (sp_assign (hlc rfl)) ?_
       refine .done ⟨by kernel_rfl, fun a27 g W27 y27 zz27 hk hg hV hR hP => ?_⟩
       obtain ⟨e11, -, -⟩ := hV
       replace e0 := (hR 0 rfl).trans e0
       replace e1 := (hR 1 rfl).trans e1
       replace e2 := (hR 2 rfl).trans e2
       replace e3 := (hR 3 rfl).trans e3
       replace e13 := (hR 13 rfl).trans e13
       replace e14 := (hR 14 rfl).trans e14
       replace e10 := (hR 10 rfl).trans e10
       replace D_v := D_v.ext hk
       replace D_p := D_p.ext hk
       replace D_v10_14 := D_v10_14.ext hk
       have e11 : sl a27 11 = v10_14 := e11
       replace kw := kw.x hk
       clear hR hk hg hP
       refine tail_nil (hK24 _ _ ?_)
       refine wp_seq_k fun K28 hK28 => ?_
       refine rg mixed y27 zz27 ?_
       refine .i (sp_move (hbs rfl e10)) ?_
       refine .rf (sp_nilR ((hlc rfl).refd D_v10_14 sub_all)) ?_
       refine .rf (X := SA w S []) (e := valsD ((xs[k]'hlt).xs)) (sp_fieldV (hlc rfl) Try.underlying33 rfl sz31 rfl rfl) ?_
       refine .da (X := SA w S []) (e := valsD ((xs[k]'hlt).xs)) (sp_loadR (hlc rfl) agg31 sz31 rfl) ?_
       refine .i (sp_move (hbs rfl e1)) ?_
       refine .i (sp_add (hlc rfl) Has.cst (i64_in (by omega))) ?_
       refine .i (sp_move (hbs rfl e11)) ?_
       refine .i (sp_move (hbs rfl e3)) ?_
       refine .i (v := (.bool (false))) (sp_call4 (φ1 := IsD (SA w S []) (valsD ((xs[k]'hlt).xs))) (φ2 := Is (.int .i64 ((level : Int) + (1 : Int)))) (φ3 := IsR (SA w S []) (V.d (xs[k]'hlt))) (φ4 := Is (.bool (nested))) ent137 (hlc rfl) (hlc rfl) ((hlc rfl).refd D_v10_14 sub_all) (hlc rfl) (fun g u1 u2 u3 u4 W hk hgk h1 h2 h3 h4 => by have h2 : u2 = _ := h2; subst u2; have h4 : u4 = _ := h4; subst u4; exact ih ((xs[k]'hlt).xs) (by omega) ((level : Int) + (1 : Int)) (by omega) (by omega) (nested) _ W _ _ (fun b o h => sa_cln hS b o h.1) h1 (Or.inr ⟨_, h3, by omega⟩))) ?_
       refine .done ⟨by kernel_rfl, fun a29 g W29 y29 zz29 hk hg hV hR hP => ?_⟩
       obtain ⟨e53, -, -, -, -, -, -, -, -, -⟩ := hV
       replace e0 := (hR 0 rfl).trans e0
       replace e1 := (hR 1 rfl).trans e1
       replace e2 := (hR 2 rfl).trans e2
       replace e3 := (hR 3 rfl).trans e3
       replace e13 := (hR 13 rfl).trans e13
       replace e14 := (hR 14 rfl).trans e14
       replace D_v := D_v.ext hk
       replace D_p := D_p.ext hk
       replace D_v10_14 := D_v10_14.ext hk
       have e53 : sl a29 53 = (.bool (false)) := e53
       replace kw := kw.x hk
       clear hR hk hg hP
       refine tail_nil (hK28 _ _ ?_)
       refine wp_cond_false e53 ?_
       refine wp_skip (hK10 _ _ ?_)
       refine rg mixed y29 zz29 ?_
       refine .i (sp_add (hbs rfl e14) Has.cst (i64_in (by omega))) ?_
       refine .i (sp_move (hlc rfl)) ?_
       refine .done ⟨by kernel_rfl, fun a30 g W30 y30 zz30 hk hg hV hR hP => ?_⟩
       obtain ⟨e14, -, -⟩ := hV
       replace e0 := (hR 0 rfl).trans e0
       replace e1 := (hR 1 rfl).trans e1
       replace e2 := (hR 2 rfl).trans e2
       replace e3 := (hR 3 rfl).trans e3
       replace e13 := (hR 13 rfl).trans e13
       replace D_v := D_v.ext hk
       replace D_p := D_p.ext hk
       replace e14 := e14.q
       replace kw := kw.x hk
       clear hR hk hg hP
       exact tail_nil ⟨hlt, y30, zz30, kw, e0, e1, e2, e3, e13, (e14.trans (congrArg (Value.int .i64) (by simp))), D_v, D_p⟩
      ·
       refine wp_skip (hK24 _ _ ?_)
       refine wp_seq_k fun K31 hK31 => ?_
       refine rg mixed y26 zz26 ?_
       refine .i (sp_move (hbs rfl e10)) ?_
       refine .rf (sp_nilR ((hlc rfl).refd D_v10_14 sub_all)) ?_
       refine .rf (X := SA w S []) (e := valsD ((xs[k]'hlt).xs)) (sp_fieldV (hlc rfl) Try.underlying33 rfl sz31 rfl rfl) ?_
       refine .da (X := SA w S []) (e := valsD ((xs[k]'hlt).xs)) (sp_loadR (hlc rfl) agg31 sz31 rfl) ?_
       refine .i (sp_move (hbs rfl e1)) ?_
       refine .i (sp_add (hlc rfl) Has.cst (i64_in (by omega))) ?_
       refine .i (sp_move (hbs rfl e11)) ?_
       refine .i (sp_move (hbs rfl e3)) ?_
       refine .i (v := (.bool (false))) (sp_call4 (φ1 := IsD (SA w S []) (valsD ((xs[k]'hlt).xs))) (φ2 := Is (.int .i64 ((level : Int) + (1 : Int)))) (φ3 := IsR (SA w S []) (V.d (y))) (φ4 := Is (.bool (nested))) ent137 (hlc rfl) (hlc rfl) ((hlc rfl).refd D_p sub_all) (hlc rfl) (fun g u1 u2 u3 u4 W hk hgk h1 h2 h3 h4 => by have h2 : u2 = _ := h2; subst u2; have h4 : u4 = _ := h4; subst u4; exact ih ((xs[k]'hlt).xs) (by omega) ((level : Int) + (1 : Int)) (by omega) (by omega) (nested) _ W _ _ (fun b o h => sa_cln hS b o h.1) h1 (Or.inr ⟨_, h3, by omega⟩))) ?_
       refine .done ⟨by kernel_rfl, fun a32 g W32 y32 zz32 hk hg hV hR hP => ?_⟩
       obtain ⟨e53, -, -, -, -, -, -, -, -, -⟩ := hV
       replace e0 := (hR 0 rfl).trans e0
       replace e1 := (hR 1 rfl).trans e1
       replace e2 := (hR 2 rfl).trans e2
       replace e3 := (hR 3 rfl).trans e3
       replace e13 := (hR 13 rfl).trans e13
       replace e14 := (hR 14 rfl).trans e14
       replace D_v := D_v.ext hk
       replace D_p := D_p.ext hk
       replace D_v10_14 := D_v10_14.ext hk
       have e53 : sl a32 53 = (.bool (false)) := e53
       replace kw := kw.x hk
       clear hR hk hg hP
       refine tail_nil (hK31 _ _ ?_)
       refine wp_cond_false e53 ?_
       refine wp_skip (hK10 _ _ ?_)
       refine rg mixed y32 zz32 ?_
       refine .i (sp_add (hbs rfl e14) Has.cst (i64_in (by omega))) ?_
       refine .i (sp_move (hlc rfl)) ?_
       refine .done ⟨by kernel_rfl, fun a33 g W33 y33 zz33 hk hg hV hR hP => ?_⟩
       obtain ⟨e14, -, -⟩ := hV
       replace e0 := (hR 0 rfl).trans e0
       replace e1 := (hR 1 rfl).trans e1
       replace e2 := (hR 2 rfl).trans e2
       replace e3 := (hR 3 rfl).trans e3
       replace e13 := (hR 13 rfl).trans e13
       replace D_v := D_v.ext hk
       replace D_p := D_p.ext hk
       replace e14 := e14.q
       replace kw := kw.x hk
       clear hR hk hg hP
       exact tail_nil ⟨hlt, y33, zz33, kw, e0, e1, e2, e3, e13, (e14.trans (congrArg (Value.int .i64) (by simp))), D_v, D_p⟩
    ·
     have hge0 : ¬ k < xs.length := by simpa using hc
     have hge : k = xs.length := by omega
     refine wp_exit (hK3 _ _ ?_)
     refine wp_seq_k fun K34 hK34 => ?_
     refine rg mixed y8 zz8 ?_
     refine .i (sp_assign Has.cst) ?_
     refine .done ⟨by kernel_rfl, fun a35 g W35 y35 zz35 hk hg hV hR hP => ?_⟩
     obtain ⟨e8, -⟩ := hV
     replace D_v := D_v.ext hk
     replace D_p := D_p.ext hk
     have e8 : sl a35 8 = (.bool (false)) := e8
     replace kw := kw.x hk
     clear hR hk hg hP
     refine tail_nil (hK34 _ _ ?_)
     refine wp_ret ?_
     refine (show bodyPost Try.prog Try.f137 _ .ret _ _ from ret1 rfl zz35 e8 ⟨_, rfl, kw, ?_⟩)
     exact rfl
end Go.Proofs.Ytnobijngkpflcaa
namespace Go.Proofs.Ytnobijngkpflcaa
open Go.Eng
set_option maxRecDepth 100000 in
theorem refSame_all : ∀ (n : Nat) (x y : V), x.cnt ≤ n → n ≤ 1073741824 → ∀ (w : World) (S : BSet) (v u : Value), Rd w S x.d v → Rd w S y.d u → Calls Try.prog 34 #[v, u] w (Ret w fun u _ => u = .bool (V.beq x y)) := by
  intro n
  induction n with
  | zero => intro x y hx; cases x; simp [V.cnt] at hx
  | succ n ih =>
  intro x y hx hn w S v u hv hu
  have hlx := len_cnts x.xs
  have hcx := cnt_eq x
  have hmn : x.ns.length ≤ maxLen := by obtain ⟨_, _, _, _, _, _, h, _⟩ := rdV_out hv; exact rd_lenS h
  simp only [maxLen] at hmn
  obtain ⟨cn0a, cn0c, ci0a, ci0c, ev, ht0, D_cn0, D_ci0⟩ := rdV_out (rd_arg hv)
  subst ev
  obtain ⟨cn1a, cn1c, ci1a, ci1c, ev, ht1, D_cn1, D_ci1⟩ := rdV_out (rd_arg hu)
  subst ev
  refine enter Try.func34 rfl Try.ntmps34 (lbr rfl) fun a0 y0 zz0 harg => ?_
  have e0 : sl a0 0 = (.agg #[(.int .u8 (x.k)), (.int .i64 (x.n)), (.string (x.t)), (.slice cn0a (x.ns.length) cn0c), (.slice ci0a (x.xs.length) ci0c)]) := harg 0 (lbr rfl)
  have e1 : sl a0 1 = (.agg #[(.int .u8 (y.k)), (.int .i64 (y.n)), (.string (y.t)), (.slice cn1a (y.ns.length) cn1c), (.slice ci1a (y.xs.length) ci1c)]) := harg 1 (lbr rfl)
  have kw := Keeps.refl All w
  clear harg
  refine wp_seq_k fun K1 hK1 => ?_
  refine rg mixed y0 zz0 ?_
  refine .boxOp (v := (.agg #[(.int .u8 (x.k)), (.int .i64 (x.n)), (.string (x.t)), (.slice cn0a (x.ns.length) cn0c), (.slice ci0a (x.xs.length) ci0c)])) (hbs rfl e0) ?_
  refine .boxOp (v := (.agg #[(.int .u8 (y.k)), (.int .i64 (y.n)), (.string (y.t)), (.slice cn1a (y.ns.length) cn1c), (.slice ci1a (y.xs.length) ci1c)])) (hbs rfl e1) ?_
  refine .i (sp_assign Has.cst) ?_
  refine .done ⟨by kernel_rfl, fun a2 g W2 y2 zz2 hk hg hV hR hP => ?_⟩
  obtain ⟨-, ⟨b3_2, e3, hb3, own_b3_2⟩, ⟨b2_2, e2, hb2, own_b2_2⟩, -⟩ := hV
  have lo_b3_2 : w.heap.size ≤ b3_2 := Nat.le_trans kw.size (hg.lo _ _ hb3)
  have own_b3_2 : Own W2 b3_2 [(.int .u8 (y.k)), (.int .i64 (y.n)), (.string (y.t)), (.slice cn1a (y.ns.length) cn1c), (.slice ci1a (y.xs.length) ci1c)] 33 := own_b3_2
  have lo_b2_2 : w.heap.size ≤ b2_2 := Nat.le_trans kw.size (hg.lo _ _ hb2)
  have own_b2_2 : Own W2 b2_2 [(.int .u8 (x.k)), (.int .i64 (x.n)), (.string (x.t)), (.slice cn0a (x.ns.length) cn0c), (.slice ci0a (x.xs.length) ci0c)] 33 := own_b2_2
  have ne_b3_2_b2_2 : b3_2 ≠ b2_2 := fun h => by have := hg.inj _ _ _ hb3 (h ▸ hb2); cases this
  replace D_cn0 := sa_more D_cn0 hk [b3_2, b2_2] (in_cons (hg.lo _ _ hb3) (in_cons (hg.lo _ _ hb2) in_nil))
  replace D_ci0 := sa_more D_ci0 hk [b3_2, b2_2] (in_cons (hg.lo _ _ hb3) (in_cons (hg.lo _ _ hb2) in_nil))
  replace D_cn1 := sa_more D_cn1 hk [b3_2, b2_2] (in_cons (hg.lo _ _ hb3) (in_cons (hg.lo _ _ hb2) in_nil))
  replace D_ci1 := sa_more D_ci1 hk [b3_2, b2_2] (in_cons (hg.lo _ _ hb3) (in_cons (hg.lo _ _ hb2) in_nil))
  replace kw := kw.x hk
  clear hR hk hg hP hb3 hb2
  refine tail_nil (hK1 _ _ ?_)
  refine wp_seq_k fun K3 hK3 => ?_
  refine wp_seq_k fun K4 hK4 => ?_
  refine rg mixed y2 zz2 ?_
  refine .i (fo 0 (hbs rfl e2) Try.underlying33 rfl sz5 rfl) ?_
  refine .i (lo1 (hlc rfl) own_b2_2 trivial agg5 sz5 rfl) ?_
  refine .i (fo 0 (hbs rfl e3) Try.underlying33 rfl sz5 rfl) ?_
  refine .i (lo1 (hlc rfl) own_b3_2 trivial agg5 sz5 rfl) ?_
  refine .i (sp_neq (hlc rfl) (hlc rfl)) ?_
  refine .i (sp_move (hlc rfl)) ?_
  refine .e (t := 12) rfl (hlc rfl) (fun hg => fo 1 (hbs rfl e2) Try.underlying33 rfl sz2 rfl) ?_
  refine .e (t := 12) rfl (hlc rfl) (fun hg => lo1 ((hlc rfl).undE hg) own_b2_2 trivial agg2 sz2 rfl) ?_
  refine .e (t := 12) rfl (hlc rfl) (fun hg => fo 1 (hbs rfl e3) Try.underlying33 rfl sz2 rfl) ?_
  refine .e (t := 12) rfl (hlc rfl) (fun hg => lo1 ((hlc rfl).undE hg) own_b3_2 trivial agg2 sz2 rfl) ?_
  refine .e (t := 12) rfl (hlc rfl) (fun hg => sp_neq ((hlc rfl).undE hg) ((hlc rfl).undE hg)) ?_
  refine .i (sp_or (hlc rfl) ((hlc rfl).weak fun hq => hq)) ?_
  refine .i (sp_move (hlc rfl)) ?_
  refine .e (t := 19) rfl (hlc rfl) (fun hg => fo 2 (hbs rfl e2) Try.underlying33 rfl sz9 rfl) ?_
  refine .e (t := 19) rfl (hlc rfl) (fun hg => lo1 ((hlc rfl).undE hg) own_b2_2 trivial agg9 sz9 rfl) ?_
  refine .e (t := 19) rfl (hlc rfl) (fun hg => fo 2 (hbs rfl e3) Try.underlying33 rfl sz9 rfl) ?_
  refine .e (t := 19) rfl (hlc rfl) (fun hg => lo1 ((hlc rfl).undE hg) own_b3_2 trivial agg9 sz9 rfl) ?_
  refine .e (t := 19) rfl (hlc rfl) (fun hg => sp_sNeq ((hlc rfl).undE hg) ((hlc rfl).undE hg)) ?_
  refine .i (sp_or (hlc rfl) ((hlc rfl).weak fun hq => hq)) ?_
  refine .i (sp_move (hlc rfl)) ?_
  refine .e (t := 26) rfl (hlc rfl) (fun hg => fo 3 (hbs rfl e2) Try.underlying33 rfl sz23 rfl) ?_
  refine .e (t := 26) rfl (hlc rfl) (fun hg => lo1 ((hlc rfl).undE hg) own_b2_2 trivial agg23 sz23 rfl) ?_
  refine .e (t := 26) rfl (hlc rfl) (fun hg => sp_lenSs Try.underlying23 (((hlc rfl).undE hg).dat D_cn0 sub_all)) ?_
  refine .e (t := 26) rfl (hlc rfl) (fun hg => fo 3 (hbs rfl e3) Try.underlying33 rfl sz23 rfl) ?_
  refine .e (t := 26) rfl (hlc rfl) (fun hg => lo1 ((hlc rfl).undE hg) own_b3_2 trivial agg23 sz23 rfl) ?_
  refine .e (t := 26) rfl (hlc rfl) (fun hg => sp_lenSs Try.underlying23 (((hlc rfl).undE hg).dat D_cn1 sub_all)) ?_
  refine .e (t := 26) rfl (hlc rfl) (fun hg => sp_neq ((hlc rfl).undE hg) ((hlc rfl).undE hg)) ?_
  refine .i (sp_or (hlc rfl) ((hlc rfl).weak fun hq => hq)) ?_
  refine .i (sp_move (hlc rfl)) ?_
  refine .e (t := 35) rfl (hlc rfl) (fun hg => fo 4 (hbs rfl e2) Try.underlying33 rfl sz31 rfl) ?_
  refine .e (t := 35) rfl (hlc rfl) (fun hg => lo1 ((hlc rfl).undE hg) own_b2_2 trivial agg31 sz31 rfl) ?_
  refine .e (t := 35) rfl (hlc rfl) (fun hg => sp_lenVs Try.underlying31 (((hlc rfl).undE hg).dat D_ci0 sub_all)) ?_
  refine .e (t := 35) rfl (hlc rfl) (fun hg => fo 4 (hbs rfl e3) Try.underlying33 rfl sz31 rfl) ?_
  refine .e (t := 35) rfl (hlc rfl) (fun hg => lo1 ((hlc rfl).undE hg) own_b3_2 trivial agg31 sz31 rfl) ?_
  refine .e (t := 35) rfl (hlc rfl) (fun hg => sp_lenVs Try.underlying31 (((hlc rfl).undE hg).dat D_ci1 sub_all)) ?_
  refine .e (t := 35) rfl (hlc rfl) (fun hg => sp_neq ((hlc rfl).undE hg) ((hlc rfl).undE hg)) ?_
  refine .i (sp_or (hlc rfl) ((hlc rfl).weak fun hq => hq)) ?_
  refine .done ⟨by kernel_rfl, fun a5 g W5 y5 zz5 hk hg hV hR hP => ?_⟩
  obtain ⟨e43, -, -, -, -, -, -, -, -, -, -, -, -, -, -, -, -, -, -, -, -, -, -, -, -, -, -, -, -, -, -, -, -, -, -, -, -, -⟩ := hV
  replace e3 := (hR 3 rfl).trans e3
  replace e2 := (hR 2 rfl).trans e2
  replace D_cn0 := D_cn0.ext hk
  replace D_ci0 := D_ci0.ext hk
  replace D_cn1 := D_cn1.ext hk
  replace D_ci1 := D_ci1.ext hk
  replace e43 := e43.q
  replace own_b3_2 := own_b3_2.ext hk
  replace own_b2_2 := own_b2_2.ext hk
  replace kw := kw.x hk
  clear hR hk hg hP
  refine tail_nil (hK4 _ _ ?_)
  refine wp_cond_split e43 (fun hc => ?_) (fun hc => ?_)
  ·
   have hfin : V.beq x y = false := beq_false fun h => by subst h; simp at hc
   refine wp_seq_k fun K6 hK6 => ?_
   refine rg mixed y5 zz5 ?_
   refine .i (sp_assign Has.cst) ?_
   refine .done ⟨by kernel_rfl, fun a7 g W7 y7 zz7 hk hg hV hR hP => ?_⟩
   obtain ⟨e4, -⟩ := hV
   replace D_cn0 := D_cn0.ext hk
   replace D_ci0 := D_ci0.ext hk
   replace D_cn1 := D_cn1.ext hk
   replace D_ci1 := D_ci1.ext hk
   have e4 : sl a7 4 = (.bool (false)) := e4
   replace own_b3_2 := own_b3_2.ext hk
   replace own_b2_2 := own_b2_2.ext hk
   replace kw := kw.x hk
   clear hR hk hg hP
   refine tail_nil (hK6 _ _ ?_)
   refine wp_ret ?_
   refine (show bodyPost Try.prog Try.f34 _ .ret _ _ from ret1 rfl zz7 e4 ⟨_, rfl, kw, ?_⟩)
   rw [hfin]
  ·
   simp at hc
   obtain ⟨⟨⟨⟨q1, q2⟩, q3⟩, q4⟩, q5⟩ := hc
   refine wp_skip (hK3 _ _ ?_)
   refine wp_seq_k fun K8 hK8 => ?_
   refine wp_seq_k fun K9 hK9 => ?_
   refine rg mixed y5 zz5 ?_
   refine .i (sp_assign Has.cst) ?_
   refine .done ⟨by kernel_rfl, fun a10 g W10 y10 zz10 hk hg hV hR hP => ?_⟩
   obtain ⟨e5, -⟩ := hV
   replace e3 := (hR 3 rfl).trans e3
   replace e2 := (hR 2 rfl).trans e2
   replace D_cn0 := D_cn0.ext hk
   replace D_ci0 := D_ci0.ext hk
   replace D_cn1 := D_cn1.ext hk
   replace D_ci1 := D_ci1.ext hk
   have e5 : sl a10 5 = (.int .i64 (0)) := e5
   replace own_b3_2 := own_b3_2.ext hk
   replace own_b2_2 := own_b2_2.ext hk
   replace kw := kw.x hk
   clear hR hk hg hP
   refine tail_nil (hK9 _ _ ?_)
   refine wp_block ?_
   refine wp_for (x.ns.length) (fun k a W => a.tmps.size = 81 ∧ a.defers = [] ∧ Keeps All w W ∧ sl a 2 = (.pointer (some ⟨b2_2, 0, none⟩)) ∧ sl a 3 = (.pointer (some ⟨b3_2, 0, none⟩)) ∧ sl a 5 = (.int .i64 ((k : Nat))) ∧ Own W b3_2 [(.int .u8 (y.k)), (.int .i64 (y.n)), (.string (y.t)), (.slice cn1a (y.ns.length) cn1c), (.slice ci1a (y.xs.length) ci1c)] 33 ∧ Own W b2_2 [(.int .u8 (x.k)), (.int .i64 (x.n)), (.string (x.t)), (.slice cn0a (x.ns.length) cn0c), (.slice ci0a (x.xs.length) ci0c)] 33 ∧ Rd W (SA w S [b3_2, b2_2]) (strsD (x.ns)) (.slice cn0a (x.ns.length) cn0c) ∧ Rd W (SA w S [b3_2, b2_2]) (valsD (x.xs)) (.slice ci0a (x.xs.length) ci0c) ∧ Rd W (SA w S [b3_2, b2_2]) (strsD (y.ns)) (.slice cn1a (y.ns.length) cn1c) ∧ Rd W (SA w S [b3_2, b2_2]) (valsD (y.xs)) (.slice ci1a (y.xs.length) ci1c) ∧ (∀ i (h1 : i < x.ns.length) (h2 : i < y.ns.length), i < k → x.ns[i] = y.ns[i])) ⟨y10, zz10, kw, e2, e3, (e5.trans (congrArg (Value.int .i64) (rfl))), own_b3_2, own_b2_2, D_cn0, D_ci0, D_cn1, D_ci1, fun i h1 h2 hi => absurd hi (by omega)⟩ ?_
   clear kw e2 e3 e5 own_b3_2 own_b2_2 D_cn0 D_ci0 D_cn1 D_ci1
   rintro k a11 W11 hkk ⟨y11, zz11, kw, e2, e3, e5, own_b3_2, own_b2_2, D_cn0, D_ci0, D_cn1, D_ci1, hinv⟩
   refine wp_seq_k fun K12 hK12 => ?_
   refine wp_seq_k fun K13 hK13 => ?_
   refine rg mixed y11 zz11 ?_
   refine .i (sp_move (hbs rfl e5)) ?_
   refine .i (fo 3 (hbs rfl e2) Try.underlying33 rfl sz23 rfl) ?_
   refine .i (lo1 (hlc rfl) own_b2_2 trivial agg23 sz23 rfl) ?_
   refine .i (sp_lenSs Try.underlying23 ((hlc rfl).dat D_cn0 sub_all)) ?_
   refine .i (sp_lss (hlc rfl) (hlc rfl)) ?_
   refine .done ⟨by kernel_rfl, fun a14 g W14 y14 zz14 hk hg hV hR hP => ?_⟩
   obtain ⟨e48, -, -, -, -, -⟩ := hV
   replace e3 := (hR 3 rfl).trans e3
   replace e2 := (hR 2 rfl).trans e2
   replace e5 := (hR 5 rfl).trans e5
   replace D_cn0 := D_cn0.ext hk
   replace D_ci0 := D_ci0.ext hk
   replace D_cn1 := D_cn1.ext hk
   replace D_ci1 := D_ci1.ext hk
   replace e48 := e48.q
   replace own_b3_2 := own_b3_2.ext hk
   replace own_b2_2 := own_b2_2.ext hk
   replace kw := kw.x hk
   clear hR hk hg hP
   refine tail_nil (hK13 _ _ ?_)
   refine wp_cond_split e48 (fun hc => ?_) (fun hc => ?_)
   ·
    have hlt : k < x.ns.length := by simpa using hc
    refine wp_skip (hK12 _ _ ?_)
    refine wp_seq_k fun K15 hK15 => ?_
    refine wp_block ?_
    refine wp_seq_k fun K16 hK16 => ?_
    refine rg mixed y14 zz14 ?_
    refine .i (fo 3 (hbs rfl e2) Try.underlying33 rfl sz23 rfl) ?_
    refine .i (lo1 (hlc rfl) own_b2_2 trivial agg23 sz23 rfl) ?_
    refine .i (sp_move (hbs rfl e5)) ?_
    refine .rf (sp_indexS (i := k) ((hlc rfl).dat D_cn0 sub_all) (hlc rfl) Try.underlying23 sz9 rfl hlt) ?_
    refine .i (sp_loadStr (hlc rfl) agg9 sz9) ?_
    refine .i (fo 3 (hbs rfl e3) Try.underlying33 rfl sz23 rfl) ?_
    refine .i (lo1 (hlc rfl) own_b3_2 trivial agg23 sz23 rfl) ?_
    refine .i (sp_move (hbs rfl e5)) ?_
    refine .rf (sp_indexS (i := k) ((hlc rfl).dat D_cn1 sub_all) (hlc rfl) Try.underlying23 sz9 rfl (by omega)) ?_
    refine .i (sp_loadStr (hlc rfl) agg9 sz9) ?_
    refine .i (sp_sNeq (hlc rfl) (hlc rfl)) ?_
    refine .done ⟨by kernel_rfl, fun a17 g W17 y17 zz17 hk hg hV hR hP => ?_⟩
    obtain ⟨e61, -, -, -, -, -, -, -, -, -, -, -⟩ := hV
    replace e3 := (hR 3 rfl).trans e3
    replace e2 := (hR 2 rfl).trans e2
    replace e5 := (hR 5 rfl).trans e5
    replace D_cn0 := D_cn0.ext hk
    replace D_ci0 := D_ci0.ext hk
    replace D_cn1 := D_cn1.ext hk
    replace D_ci1 := D_ci1.ext hk
    replace e61 := e61.q
    replace own_b3_2 := own_b3_2.ext hk
    replace own_b2_2 := own_b2_2.ext hk
    replace kw := kw.x hk
    clear hR hk hg hP
    refine tail_nil (hK16 _ _ ?_)
    refine wp_cond_split e61 (fun hc => ?_) (fun hc => ?_)
    ·
     have hfin : V.beq x y = false := beq_false fun h => by subst h; simp at hc
     refine wp_seq_k fun K18 hK18 => ?_
     refine rg mixed y17 zz17 ?_
     refine .i (sp_assign Has.cst) ?_
     refine .done ⟨by kernel_rfl, fun a19 g W19 y19 zz19 hk hg hV hR hP => ?_⟩
     obtain ⟨e4, -⟩ := hV
     replace D_cn0 := D_cn0.ext hk
     replace D_ci0 := D_ci0.ext hk
     replace D_cn1 := D_cn1.ext hk
     replace D_ci1 := D_ci1.ext hk
     have e4 : sl a19 4 = (.bool (false)) := e4
     replace own_b3_2 := own_b3_2.ext hk
     replace own_b2_2 := own_b2_2.ext hk
     replace kw := kw.x hk
     clear hR hk hg hP
     refine tail_nil (hK18 _ _ ?_)
     refine wp_ret ?_
     refine (show bodyPost Try.prog Try.f34 _ .ret _ _ from ret1 rfl zz19 e4 ⟨_, rfl, kw, ?_⟩)
     rw [hfin]
    ·
     have hk1 : x.ns[k] = y.ns[k] := by simpa using hc
     refine wp_skip (hK15 _ _ ?_)
     refine rg mixed y17 zz17 ?_
     refine .i (sp_move (hbs rfl e5)) ?_
     refine .i (sp_add (hlc rfl) Has.cst (i64_in (by omega))) ?_
     refine .i (sp_assign (hlc rfl)) ?_
     refine .done ⟨by kernel_rfl, fun a20 g W20 y20 zz20 hk hg hV hR hP => ?_⟩
     obtain ⟨e5, -, -, -⟩ := hV
     replace e3 := (hR 3 rfl).trans e3
     replace e2 := (hR 2 rfl).trans e2
     replace D_cn0 := D_cn0.ext hk
     replace D_ci0 := D_ci0.ext hk
     replace D_cn1 := D_cn1.ext hk
     replace D_ci1 := D_ci1.ext hk
     replace e5 := e5.q
     replace own_b3_2 := own_b3_2.ext hk
     replace own_b2_2 := own_b2_2.ext hk
     replace kw := kw.x hk
     clear hR hk hg hP
     exact tail_nil ⟨hlt, y20, zz20, kw, e2, e3, (e5.trans (congrArg (Value.int .i64) (by simp))), own_b3_2, own_b2_2, D_cn0, D_ci0, D_cn1, D_ci1, fun i h1 h2 hi => by rcases Nat.lt_succ_iff_lt_or_eq.1 hi with h | h; exact hinv i h1 h2 h; subst h; exact hk1⟩
   ·
    have hge0 : ¬ k < x.ns.length := by simpa using hc
    have hge : k = x.ns.length := by omega
    have hns : x.ns = y.ns := List.ext_getElem (by omega) fun i h1 h2 => hinv i h1 h2 (by omega)
    refine wp_exit (hK8 _ _ ?_)
    refine wp_seq_k fun K21 hK21 => ?_
    refine wp_seq_k fun K22 hK22 => ?_
    refine rg mixed y14 zz14 ?_
    refine .i (sp_assign Has.cst) ?_
    refine .done ⟨by kernel_rfl, fun a23 g W23 y23 zz23 hk hg hV hR hP => ?_⟩
    obtain ⟨e6, -⟩ := hV
    replace e3 := (hR 3 rfl).trans e3
    replace e2 := (hR 2 rfl).trans e2
    replace D_cn0 := D_cn0.ext hk
    replace D_ci0 := D_ci0.ext hk
    replace D_cn1 := D_cn1.ext hk
    replace D_ci1 := D_ci1.ext hk
    have e6 : sl a23 6 = (.int .i64 (0)) := e6
    replace own_b3_2 := own_b3_2.ext hk
    replace own_b2_2 := own_b2_2.ext hk
    replace kw := kw.x hk
    clear hR hk hg hP
    refine tail_nil (hK22 _ _ ?_)
    refine wp_block ?_
    refine wp_for (x.xs.length) (fun j a W => a.tmps.size = 81 ∧ a.defers = [] ∧ Keeps All w W ∧ sl a 2 = (.pointer (some ⟨b2_2, 0, none⟩)) ∧ sl a 3 = (.pointer (some ⟨b3_2, 0, none⟩)) ∧ sl a 6 = (.int .i64 ((j : Nat))) ∧ Own W b3_2 [(.int .u8 (y.k)), (.int .i64 (y.n)), (.string (y.t)), (.slice cn1a (y.ns.length) cn1c), (.slice ci1a (y.xs.length) ci1c)] 33 ∧ Own W b2_2 [(.int .u8 (x.k)), (.int .i64 (x.n)), (.string (x.t)), (.slice cn0a (x.ns.length) cn0c), (.slice ci0a (x.xs.length) ci0c)] 33 ∧ Rd W (SA w S [b3_2, b2_2]) (strsD (x.ns)) (.slice cn0a (x.ns.length) cn0c) ∧ Rd W (SA w S [b3_2, b2_2]) (valsD (x.xs)) (.slice ci0a (x.xs.length) ci0c) ∧ Rd W (SA w S [b3_2, b2_2]) (strsD (y.ns)) (.slice cn1a (y.ns.length) cn1c) ∧ Rd W (SA w S [b3_2, b2_2]) (valsD (y.xs)) (.slice ci1a (y.xs.length) ci1c) ∧ (∀ i (h1 : i < x.xs.length) (h2 : i < y.xs.length), i < j → x.xs[i] = y.xs[i])) ⟨y23, zz23, kw, e2, e3, (e6.trans (congrArg (Value.int .i64) (rfl))), own_b3_2, own_b2_2, D_cn0, D_ci0, D_cn1, D_ci1, fun i h1 h2 hi => absurd hi (by omega)⟩ ?_
    clear kw e2 e3 e6 own_b3_2 own_b2_2 D_cn0 D_ci0 D_cn1 D_ci1
    rintro j a24 W24 hkj ⟨y24, zz24, kw, e2, e3, e6, own_b3_2, own_b2_2, D_cn0, D_ci0, D_cn1, D_ci1, hinv2⟩
    refine wp_seq_k fun K25 hK25 => ?_
    refine wp_seq_k fun K26 hK26 => ?_
    refine rg mixed y24 zz24 ?_
    refine .i (sp_move (hbs rfl e6)) ?_
    refine .i (fo 4 (hbs rfl e2) Try.underlying33 rfl sz31 rfl) ?_
    refine .i (lo1 (hlc rfl) own_b2_2 trivial agg31 sz31 rfl) ?_
    refine .i (sp_lenVs Try.underlying31 ((hlc rfl).dat D_ci0 sub_all)) ?_
    refine .i (sp_lss (hlc rfl) (hlc rfl)) ?_
    refine .done ⟨by kernel_rfl, fun a27 g W27 y27 zz27 hk hg hV hR hP => ?_⟩
    obtain ⟨e66, -, -, -, -, -⟩ := hV
    replace e3 := (hR 3 rfl).trans e3
    replace e2 := (hR 2 rfl).trans e2
    replace e6 := (hR 6 rfl).trans e6
    replace D_cn0 := D_cn0.ext hk
    replace D_ci0 := D_ci0.ext hk
    replace D_cn1 := D_cn1.ext hk
    replace D_ci1 := D_ci1.ext hk
    replace e66 := e66.q
    replace own_b3_2 := own_b3_2.ext hk
    replace own_b2_2 := own_b2_2.ext hk
    replace kw := kw.x hk
    clear hR hk hg hP
    refine tail_nil (hK26 _ _ ?_)
    refine wp_cond_split e66 (fun hc => ?_) (fun hc => ?_)
    ·
     have hlt : j < x.xs.length := by simpa using hc
     have hltj := hlt
     have hce := cnt_elem hlt
     have hcq := cnt_eq x
     refine wp_skip (hK25 _ _ ?_)
     refine wp_seq_k fun K28 hK28 => ?_
     refine wp_block ?_
     refine wp_seq_k fun K29 hK29 => ?_
     refine rg mixed y27 zz27 ?_
     refine .i (fo 4 (hbs rfl e2) Try.underlying33 rfl sz31 rfl) ?_
     refine .i (lo1 (hlc rfl) own_b2_2 trivial agg31 sz31 rfl) ?_
     refine .i (sp_move (hbs rfl e6)) ?_
     refine .rf (sp_indexV (i := j) ((hlc rfl).dat D_ci0 sub_all) (hlc rfl) Try.underlying31 sz33 rfl hltj) ?_
     refine .da (sp_loadV (hlc rfl) agg33 sz33) ?_
     refine .i (fo 4 (hbs rfl e3) Try.underlying33 rfl sz31 rfl) ?_
     refine .i (lo1 (hlc rfl) own_b3_2 trivial agg31 sz31 rfl) ?_
     refine .i (sp_move (hbs rfl e6)) ?_
     refine .rf (sp_indexV (i := j) ((hlc rfl).dat D_ci1 sub_all) (hlc rfl) Try.underlying31 sz33 rfl (by omega)) ?_
     refine .da (sp_loadV (hlc rfl) agg33 sz33) ?_
     refine .i (v := (.bool (V.beq (x.xs[j]'hltj) (y.xs[j]'(by omega))))) (sp_call2 (φ1 := IsD (SA w S [b3_2, b2_2]) (V.d (x.xs[j]'hltj))) (φ2 := IsD (SA w S [b3_2, b2_2]) (V.d (y.xs[j]'(by omega)))) ent34 (hlc rfl) (hlc rfl) (fun g u1 u2 W hk hgk h1 h2 => ih (x.xs[j]'hltj) (y.xs[j]'(by omega)) (by omega) (by first | omega | exact Nat.le_of_ble_eq_true (by kernel_rfl)) W _ _ _ h1 h2)) ?_
     refine .i (sp_not (hlc rfl)) ?_
     refine .done ⟨by kernel_rfl, fun a30 g W30 y30 zz30 hk hg hV hR hP => ?_⟩
     obtain ⟨e80, -, -, -, -, -, -, -, -, -, -, -, -⟩ := hV
     replace e3 := (hR 3 rfl).trans e3
     replace e2 := (hR 2 rfl).trans e2
     replace e6 := (hR 6 rfl).trans e6
     replace D_cn0 := D_cn0.ext hk
     replace D_ci0 := D_ci0.ext hk
     replace D_cn1 := D_cn1.ext hk
     replace D_ci1 := D_ci1.ext hk
     replace e80 := e80.q
     replace own_b3_2 := own_b3_2.ext hk
     replace own_b2_2 := own_b2_2.ext hk
     replace kw := kw.x hk
     clear hR hk hg hP
     refine tail_nil (hK29 _ _ ?_)
     refine wp_cond_split e80 (fun hc => ?_) (fun hc => ?_)
     ·
      have hfin : V.beq x y = false := beq_false fun h => by subst h; simp [beq_refl] at hc
      refine wp_seq_k fun K31 hK31 => ?_
      refine rg mixed y30 zz30 ?_
      refine .i (sp_assign Has.cst) ?_
      refine .done ⟨by kernel_rfl, fun a32 g W32 y32 zz32 hk hg hV hR hP => ?_⟩
      obtain ⟨e4, -⟩ := hV
      replace D_cn0 := D_cn0.ext hk
      replace D_ci0 := D_ci0.ext hk
      replace D_cn1 := D_cn1.ext hk
      replace D_ci1 := D_ci1.ext hk
      have e4 : sl a32 4 = (.bool (false)) := e4
      replace own_b3_2 := own_b3_2.ext hk
      replace own_b2_2 := own_b2_2.ext hk
      replace kw := kw.x hk
      clear hR hk hg hP
      refine tail_nil (hK31 _ _ ?_)
      refine wp_ret ?_
      refine (show bodyPost Try.prog Try.f34 _ .ret _ _ from ret1 rfl zz32 e4 ⟨_, rfl, kw, ?_⟩)
      rw [hfin]
     ·
      have hk1 : x.xs[j] = y.xs[j] := (beq_iff _ _).1 (by simpa using hc)
      refine wp_skip (hK28 _ _ ?_)
      refine rg mixed y30 zz30 ?_
      refine .i (sp_move (hbs rfl e6)) ?_
      refine .i (sp_add (hlc rfl) Has.cst (i64_in (by omega))) ?_
      refine .i (sp_assign (hlc rfl)) ?_
      refine .done ⟨by kernel_rfl, fun a33 g W33 y33 zz33 hk hg hV hR hP => ?_⟩
      obtain ⟨e6, -, -, -⟩ := hV
      replace e3 := (hR 3 rfl).trans e3
      replace e2 := (hR 2 rfl).trans e2
      replace D_cn0 := D_cn0.ext hk
      replace D_ci0 := D_ci0.ext hk
      replace D_cn1 := D_cn1.ext hk
      replace D_ci1 := D_ci1.ext hk
      replace e6 := e6.q
      replace own_b3_2 := own_b3_2.ext hk
      replace own_b2_2 := own_b2_2.ext hk
      replace kw := kw.x hk
      clear hR hk hg hP
      exact tail_nil ⟨hlt, y33, zz33, kw, e2, e3, (e6.trans (congrArg (Value.int .i64) (by simp))), own_b3_2, own_b2_2, D_cn0, D_ci0, D_cn1, D_ci1, fun i h1 h2 hi => by rcases Nat.lt_succ_iff_lt_or_eq.1 hi with h | h; exact hinv2 i h1 h2 h; subst h; exact hk1⟩
    ·
     have hge0 : ¬ j < x.xs.length := by simpa using hc
     have hge : j = x.xs.length := by omega
     have hfin : V.beq x y = true := (beq_iff x y).2 (V.ext (by omega) q2 q3 hns (List.ext_getElem (by omega) fun i h1 h2 => hinv2 i h1 h2 (by omega)))
     refine wp_exit (hK21 _ _ ?_)
     refine wp_seq_k fun K34 hK34 => ?_
     refine rg mixed y27 zz27 ?_
     refine .i (sp_assign Has.cst) ?_
     refine .done ⟨by kernel_rfl, fun a35 g W35 y35 zz35 hk hg hV hR hP => ?_⟩
     obtain ⟨e4, -⟩ := hV
     replace D_cn0 := D_cn0.ext hk
     replace D_ci0 := D_ci0.ext hk
     replace D_cn1 := D_cn1.ext hk
     replace D_ci1 := D_ci1.ext hk
     have e4 : sl a35 4 = (.bool (true)) := e4
     replace own_b3_2 := own_b3_2.ext hk
     replace own_b2_2 := own_b2_2.ext hk
     replace kw := kw.x hk
     clear hR hk hg hP
     refine tail_nil (hK34 _ _ ?_)
     refine wp_ret ?_
     refine (show bodyPost Try.prog Try.f34 _ .ret _ _ from ret1 rfl zz35 e4 ⟨_, rfl, kw, ?_⟩)
     rw [hfin]
set_option maxRecDepth 100000 in
theorem hasPrefix_in (t p : ByteArray) (w : World) : Calls Try.prog 181 #[.string t, .string p] w (Ret w fun u _ => u = .bool (hasPre t p)) := by
  refine enter Try.func181 rfl Try.ntmps181 (lbr rfl) fun a0 y0 zz0 harg => ?_
  have e0 : sl a0 0 = (.string (t)) := harg 0 (lbr rfl)
  have e1 : sl a0 1 = (.string (p)) := harg 1 (lbr rfl)
  have kw := Keeps.refl All w
  clear harg
  refine wp_seq_k fun K1 hK1 => ?_
  refine rg mixed y0 zz0 ?_
  refine .i (sp_assign Has.cst) ?_
  refine .done ⟨by kernel_rfl, fun a2 g W2 y2 zz2 hk hg hV hR hP => ?_⟩
  obtain ⟨-, -⟩ := hV
  replace e0 := (hR 0 rfl).trans e0
  replace e1 := (hR 1 rfl).trans e1
  replace kw := kw.x hk
  clear hR hk hg hP
  refine tail_nil (hK1 _ _ ?_)
  refine wp_seq_k fun K3 hK3 => ?_
  refine rg mixed y2 zz2 ?_
  refine .i (sp_move (hbs rfl e0)) ?_
  refine .i (sp_lenS Try.underlying9 (hlc rfl)) ?_
  refine .i (sp_move (hbs rfl e1)) ?_
  refine .i (sp_lenS Try.underlying9 (hlc rfl)) ?_
  refine .i (sp_geq (hlc rfl) (hlc rfl)) ?_
  refine .i (sp_move (hlc rfl)) ?_
  refine .e (t := 10) rfl (hlc rfl) (fun hg => sp_move (hbs rfl e0)) ?_
  refine .e (t := 10) rfl (hlc rfl) (fun hg => sp_move (hbs rfl e1)) ?_
  refine .e (t := 10) rfl (hlc rfl) (fun hg => sp_lenS Try.underlying9 ((hlc rfl).undE hg)) ?_
  refine .e (t := 10) (v := (.string (t.extract 0 p.size))) rfl (hlc rfl) (fun hg => sp_sliceHi (i := p.size) Try.underlying9 ((hlc rfl).undE hg) ((hlc rfl).undE hg) rfl (by simp at hg; omega)) ?_
  refine .e (t := 10) rfl (hlc rfl) (fun hg => sp_move (hbs rfl e1)) ?_
  refine .e (t := 10) rfl (hlc rfl) (fun hg => sp_sEql ((hlc rfl).undE hg) ((hlc rfl).undE hg)) ?_
  refine .i (sp_and (hlc rfl) ((hlc rfl).weak fun hq => hq)) ?_
  refine .i (sp_assign (hlc rfl)) ?_
  refine .done ⟨by kernel_rfl, fun a4 g W4 y4 zz4 hk hg hV hR hP => ?_⟩
  obtain ⟨e4, -, -, -, -, -, -, -, -, -, -, -, -, -, -⟩ := hV
  replace e4 := e4.q
  replace kw := kw.x hk
  clear hR hk hg hP
  refine tail_nil (hK3 _ _ ?_)
  refine wp_ret ?_
  refine (show bodyPost Try.prog Try.f181 _ .ret _ _ from ret1 rfl zz4 e4 ⟨_, rfl, kw, ?_⟩)
  congr 1; simp [hasPre]
set_option maxRecDepth 100000 in
theorem hasPrefix_ok (t p : ByteArray) (w : World) : Calls Try.prog 180 #[.string t, .string p] w (Ret w fun u _ => u = .bool (hasPre t p)) := by
  refine enter Try.func180 rfl Try.ntmps180 (lbr rfl) fun a0 y0 zz0 harg => ?_
  have e0 : sl a0 0 = (.string (t)) := harg 0 (lbr rfl)
  have e1 : sl a0 1 = (.string (p)) := harg 1 (lbr rfl)
  have kw := Keeps.refl All w
  clear harg
  refine wp_seq_k fun K1 hK1 => ?_
  refine rg mixed y0 zz0 ?_
  refine .i (sp_assign Has.cst) ?_
  refine .done ⟨by kernel_rfl, fun a2 g W2 y2 zz2 hk hg hV hR hP => ?_⟩
  obtain ⟨-, -⟩ := hV
  replace e0 := (hR 0 rfl).trans e0
  replace e1 := (hR 1 rfl).trans e1
  replace kw := kw.x hk
  clear hR hk hg hP
  refine tail_nil (hK1 _ _ ?_)
  refine wp_seq_k fun K3 hK3 => ?_
  refine rg mixed y2 zz2 ?_
  refine .i (sp_move (hbs rfl e0)) ?_
  refine .i (sp_move (hbs rfl e1)) ?_
  refine .i (v := (.bool (hasPre t p))) (sp_call2 (φ1 := Is (.string (t))) (φ2 := Is (.string (p))) ent181 (hlc rfl) (hlc rfl) (fun g u1 u2 W hk hgk h1 h2 => by have h1 : u1 = _ := h1; subst u1; have h2 : u2 = _ := h2; subst u2; exact hasPrefix_in (t) (p) W)) ?_
  refine .i (sp_assign (hlc rfl)) ?_
  refine .done ⟨by kernel_rfl, fun a4 g W4 y4 zz4 hk hg hV hR hP => ?_⟩
  obtain ⟨e4, -, -, -, -⟩ := hV
  have e4 : sl a4 4 = (.bool (hasPre t p)) := e4
  replace kw := kw.x hk
  clear hR hk hg hP
  refine tail_nil (hK3 _ _ ?_)
  refine wp_ret ?_
  refine (show bodyPost Try.prog Try.f180 _ .ret _ _ from ret1 rfl zz4 e4 ⟨_, rfl, kw, ?_⟩)
  exact rfl
set_option maxRecDepth 100000 in
theorem utfLen_ok (t : ByteArray) (ht : t.size ≤ 1073741824) (w : World) : Calls Try.prog 179 #[.string t] w (Ret w fun u _ => ∃ n : Int, u = .tuple #[.int .i64 n, .bool (utfOk t)]) := by
  refine enter Try.func179 rfl Try.ntmps179 (lbr rfl) fun a0 y0 zz0 harg => ?_
  have e0 : sl a0 0 = (.string (t)) := harg 0 (lbr rfl)
  have kw := Keeps.refl All w
  clear harg
  refine wp_seq_k fun K1 hK1 => ?_
  refine rg mixed y0 zz0 ?_
  refine .i (sp_assign Has.cst) ?_
  refine .i (sp_assign Has.cst) ?_
  refine .done ⟨by kernel_rfl, fun a2 g W2 y2 zz2 hk hg hV hR hP => ?_⟩
  obtain ⟨-, -, -⟩ := hV
  replace e0 := (hR 0 rfl).trans e0
  replace kw := kw.x hk
  clear hR hk hg hP
  refine tail_nil (hK1 _ _ ?_)
  refine wp_seq_k fun K3 hK3 => ?_
  refine rg mixed y2 zz2 ?_
  refine .i (sp_assign Has.cst) ?_
  refine .done ⟨by kernel_rfl, fun a4 g W4 y4 zz4 hk hg hV hR hP => ?_⟩
  obtain ⟨e4, -⟩ := hV
  replace e0 := (hR 0 rfl).trans e0
  have e4 : sl a4 4 = (.int .i64 (0)) := e4
  replace kw := kw.x hk
  clear hR hk hg hP
  refine tail_nil (hK3 _ _ ?_)
  refine wp_seq_k fun K5 hK5 => ?_
  refine wp_seq_k fun K6 hK6 => ?_
  refine rg mixed y4 zz4 ?_
  refine .i (sp_move (hbs rfl e0)) ?_
  refine .rangeS Try.underlying9 (hlc rfl) ?_
  refine .done ⟨by kernel_rfl, fun a7 g W7 y7 zz7 hk hg hV hR hP => ?_⟩
  obtain ⟨⟨b8_7, e8, hb8, own_b8_7⟩, -, -⟩ := hV
  have lo_b8_7 : w.heap.size ≤ b8_7 := Nat.le_trans kw.size (hg.lo _ _ hb8)
  have own_b8_7 : OwnIt W7 b8_7 (t) (0) := own_b8_7
  replace e0 := (hR 0 rfl).trans e0
  replace e4 := (hR 4 rfl).trans e4
  replace kw := kw.x hk
  clear hR hk hg hP hb8
  refine tail_nil (hK6 _ _ ?_)
  refine wp_block ?_
  refine wp_for (t.size) (fun k a W => ∃ (p : Nat), ∃ (f : Nat), a.tmps.size = 25 ∧ a.defers = [] ∧ Keeps All w W ∧ sl a 0 = (.string (t)) ∧ sl a 4 = (.int .i64 ((k : Nat))) ∧ sl a 8 = (.pointer (some ⟨b8_7, 0, none⟩)) ∧ OwnIt W b8_7 (t) (p) ∧ (k ≤ p) ∧ (utfOk t = utfFrom t f p) ∧ (t.size ≤ p + f)) ⟨0, t.size, y7, zz7, kw, e0, (e4.trans (congrArg (Value.int .i64) (rfl))), e8, own_b8_7, Nat.le_refl _, rfl, by omega⟩ ?_
  clear kw e0 e4 e8 own_b8_7
  rintro k a8 W8 hkk ⟨p, f, y8, zz8, kw, e0, e4, e8, own_b8_7, hkp, hfu, hfp⟩
  refine wp_seq_k fun K9 hK9 => ?_
  refine wp_next (b := b8_7) (p := p) (s := t) mixed y8 zz8 e8 own_b8_7 (by decide) (by kernel_rfl) (fun a10 W10 y10 zz10 hk hlt own_b8_7 e9 e10 hr => ?_) (fun a10 W10 y10 zz10 hk hge own_b8_7 e9 e10 hr => ?_)
  ·
   replace e0 := (hr 0 (by decide) (by decide)).trans e0
   replace e4 := (hr 4 (by decide) (by decide)).trans e4
   replace e8 := (hr 8 (by decide) (by decide)).trans e8
   replace kw := keeps_store kw hk lo_b8_7
   clear hr hk
   have hwp := width_pos t p hlt
   obtain ⟨f, rfl⟩ : ∃ f', f = f' + 1 := ⟨f - 1, by omega⟩
   rw [utfFrom, if_pos hlt] at hfu
   refine id (hK9 _ _ ?_)
   refine wp_seq_k fun K11 hK11 => ?_
   refine wp_cond_true e10 ?_
   refine wp_skip (hK11 _ _ ?_)
   refine wp_block ?_
   refine wp_seq_k fun K12 hK12 => ?_
   refine rg mixed y10 zz10 ?_
   refine .i (v := (.int .i64 ((p : Nat)))) (sp_extT (hbs rfl e9) rfl) ?_
   refine .i (v := (.int .i32 (((Utf8.decode t p).1 : Nat)))) (sp_extT (hbs rfl e9) rfl) ?_
   refine .i (sp_assign (hlc rfl)) ?_
   refine .i (sp_assign (hlc rfl)) ?_
   refine .done ⟨by kernel_rfl, fun a13 g W13 y13 zz13 hk hg hV hR hP => ?_⟩
   obtain ⟨e6, e5, -, -, -⟩ := hV
   replace e0 := (hR 0 rfl).trans e0
   replace e4 := (hR 4 rfl).trans e4
   replace e8 := (hR 8 rfl).trans e8
   have e5 : sl a13 5 = (.int .i64 ((p : Nat))) := e5
   replace e6 := e6.q
   replace own_b8_7 := own_b8_7.ext hk
   replace kw := kw.x hk
   clear hR hk hg hP
   refine tail_nil (hK12 _ _ ?_)
   refine wp_seq_k fun K14 hK14 => ?_
   refine wp_seq_k fun K15 hK15 => ?_
   refine rg mixed y13 zz13 ?_
   refine .i (sp_move (hbs rfl e6)) ?_
   refine .i (sp_eql (hlc rfl) Has.cst) ?_
   refine .i (sp_move (hlc rfl)) ?_
   refine .e (t := 15) rfl (hlc rfl) (fun hg => sp_move (hbs rfl e0)) ?_
   refine .e (t := 15) rfl (hlc rfl) (fun hg => sp_move (hbs rfl e5)) ?_
   refine .e (t := 15) (v := (.string (t.extract p t.size))) rfl (hlc rfl) (fun hg => sp_sliceLo (i := p) Try.underlying9 ((hlc rfl).undE hg) ((hlc rfl).undE hg) rfl (by omega)) ?_
   refine .e (t := 15) (v := (.bool (hasPre (t.extract p t.size) ⟨#[239, 191, 189]⟩))) rfl (hlc rfl) (fun hg => sp_call2 (φ1 := Is (.string (t.extract p t.size))) (φ2 := Is (.string (⟨#[239, 191, 189]⟩))) ent180 ((hlc rfl).undE hg) Has.cst (fun g u1 u2 W hk hgk h1 h2 => by have h1 : u1 = _ := h1; subst u1; have h2 : u2 = _ := h2; subst u2; exact hasPrefix_ok (t.extract p t.size) (⟨#[239, 191, 189]⟩) W)) ?_
   refine .e (t := 15) rfl (hlc rfl) (fun hg => sp_not ((hlc rfl).undE hg)) ?_
   refine .i (sp_and (hlc rfl) ((hlc rfl).weak fun hq => hq)) ?_
   refine .done ⟨by kernel_rfl, fun a16 g W16 y16 zz16 hk hg hV hR hP => ?_⟩
   obtain ⟨e21, -, -, -, -, -, -, -, -, -⟩ := hV
   replace e0 := (hR 0 rfl).trans e0
   replace e4 := (hR 4 rfl).trans e4
   replace e8 := (hR 8 rfl).trans e8
   replace e21 := e21.q
   replace own_b8_7 := own_b8_7.ext hk
   replace kw := kw.x hk
   clear hR hk hg hP
   refine tail_nil (hK15 _ _ ?_)
   refine wp_cond_split e21 (fun hc => ?_) (fun hc => ?_)
   ·
    simp at hc
    have hfin : utfOk t = false := by rw [hfu, if_pos ⟨by omega, hc.2⟩]
    refine wp_seq_k fun K17 hK17 => ?_
    refine rg mixed y16 zz16 ?_
    refine .i (sp_assign Has.cst) ?_
    refine .i (sp_assign Has.cst) ?_
    refine .done ⟨by kernel_rfl, fun a18 g W18 y18 zz18 hk hg hV hR hP => ?_⟩
    obtain ⟨e3, e2, -⟩ := hV
    have e2 : sl a18 2 = (.int .i64 (0)) := e2
    have e3 : sl a18 3 = (.bool (false)) := e3
    replace own_b8_7 := own_b8_7.ext hk
    replace kw := kw.x hk
    clear hR hk hg hP
    refine tail_nil (hK17 _ _ ?_)
    refine wp_ret ?_
    refine (show bodyPost Try.prog Try.f179 _ .ret _ _ from ret2 rfl zz18 e2 e3 ⟨_, rfl, kw, ?_⟩)
    rw [hfin]
    exact ⟨_, rfl⟩
   ·
    simp at hc
    rw [if_neg (fun h => by have h2 := hc (by omega); have h3 := h.2; unfold badRune at h3; rw [h2] at h3; cases h3)] at hfu
    refine wp_skip (hK14 _ _ ?_)
    refine rg mixed y16 zz16 ?_
    refine .i (sp_move (hbs rfl e4)) ?_
    refine .i (sp_add (hlc rfl) Has.cst (i64_in (by omega))) ?_
    refine .i (sp_assign (hlc rfl)) ?_
    refine .done ⟨by kernel_rfl, fun a19 g W19 y19 zz19 hk hg hV hR hP => ?_⟩
    obtain ⟨e4, -, -, -⟩ := hV
    replace e0 := (hR 0 rfl).trans e0
    replace e8 := (hR 8 rfl).trans e8
    replace e4 := e4.q
    replace own_b8_7 := own_b8_7.ext hk
    replace kw := kw.x hk
    clear hR hk hg hP
    exact tail_nil ⟨by omega, _, f, y19, zz19, kw, e0, (e4.trans (congrArg (Value.int .i64) (by simp))), e8, own_b8_7, by omega, hfu, by omega⟩
  ·
   replace e0 := (hr 0 (by decide) (by decide)).trans e0
   replace e4 := (hr 4 (by decide) (by decide)).trans e4
   replace e8 := (hr 8 (by decide) (by decide)).trans e8
   replace kw := keeps_store kw hk lo_b8_7
   clear hr hk
   have hfin : utfOk t = true := hfu.trans (utfFrom_end hge)
   refine id (hK9 _ _ ?_)
   refine wp_seq_k fun K20 hK20 => ?_
   refine wp_cond_false e10 ?_
   refine wp_exit (hK5 _ _ ?_)
   refine wp_seq_k fun K21 hK21 => ?_
   refine rg mixed y10 zz10 ?_
   refine .i (sp_move (hbs rfl e4)) ?_
   refine .i (sp_assign (hlc rfl)) ?_
   refine .i (sp_assign Has.cst) ?_
   refine .done ⟨by kernel_rfl, fun a22 g W22 y22 zz22 hk hg hV hR hP => ?_⟩
   obtain ⟨e3, e2, -, -⟩ := hV
   have e2 : sl a22 2 = (.int .i64 ((k : Nat))) := e2
   have e3 : sl a22 3 = (.bool (true)) := e3
   replace own_b8_7 := own_b8_7.ext hk
   replace kw := kw.x hk
   clear hR hk hg hP
   refine tail_nil (hK21 _ _ ?_)
   refine wp_ret ?_
   refine (show bodyPost Try.prog Try.f179 _ .ret _ _ from ret2 rfl zz22 e2 e3 ⟨_, rfl, kw, ?_⟩)
   rw [hfin]
   exact ⟨_, rfl⟩
set_option maxRecDepth 100000 in
theorem valid_ok (t : ByteArray) (ht : t.size ≤ 1073741824) (w : World) : Calls Try.prog 177 #[.string t] w (Ret w fun u _ => u = .bool (utfOk t)) := by
  refine enter Try.func177 rfl Try.ntmps177 (lbr rfl) fun a0 y0 zz0 harg => ?_
  have e0 : sl a0 0 = (.string (t)) := harg 0 (lbr rfl)
  have kw := Keeps.refl All w
  clear harg
  refine wp_seq_k fun K1 hK1 => ?_
  refine rg mixed y0 zz0 ?_
  refine .i (sp_assign Has.cst) ?_
  refine .done ⟨by kernel_rfl, fun a2 g W2 y2 zz2 hk hg hV hR hP => ?_⟩
  obtain ⟨-, -⟩ := hV
  replace e0 := (hR 0 rfl).trans e0
  replace kw := kw.x hk
  clear hR hk hg hP
  refine tail_nil (hK1 _ _ ?_)
  refine wp_seq_k fun K3 hK3 => ?_
  refine rg mixed y2 zz2 ?_
  refine .i (sp_move (hbs rfl e0)) ?_
  refine .op (φ := IsT (Any) (Is (.bool (utfOk t)))) (st_t st_any (st_is _)) (sp_call1 (φ1 := Is (.string (t))) ent179 (hlc rfl) (fun g u1 W hk hgk h1 => by have h1 : u1 = _ := h1; subst u1; exact (utfLen_ok (t) (by omega) W).mono (fun _ _ ⟨v, h1, h2, n, h3⟩ => ⟨v, h1, h2, _, _, h3, trivial, rfl⟩))) ?_
  refine .op (φ := IsT (Any) (Is (.bool (utfOk t)))) (st_t st_any (st_is _)) (sp_move (hlc rfl)) ?_
  refine .op (φ := Any) st_any (sp_ext2 (hlc rfl) rfl) ?_
  refine .i (v := (.bool (utfOk t))) (sp_ext2' (hlc rfl) rfl) ?_
  refine .op (φ := Any) st_any (sp_assign (hlc rfl)) ?_
  refine .i (sp_assign (hlc rfl)) ?_
  refine .done ⟨by kernel_rfl, fun a4 g W4 y4 zz4 hk hg hV hR hP => ?_⟩
  obtain ⟨e4, -, -, -, -, -, -, -⟩ := hV
  have e4 : sl a4 4 = (.bool (utfOk t)) := e4
  replace kw := kw.x hk
  clear hR hk hg hP
  refine tail_nil (hK3 _ _ ?_)
  refine wp_seq_k fun K5 hK5 => ?_
  refine rg mixed y4 zz4 ?_
  refine .i (sp_move (hbs rfl e4)) ?_
  refine .i (sp_assign (hlc rfl)) ?_
  refine .done ⟨by kernel_rfl, fun a6 g W6 y6 zz6 hk hg hV hR hP => ?_⟩
  obtain ⟨e2, -, -⟩ := hV
  have e2 : sl a6 2 = (.bool (utfOk t)) := e2
  replace kw := kw.x hk
  clear hR hk hg hP
  refine tail_nil (hK5 _ _ ?_)
  refine wp_ret ?_
  refine (show bodyPost Try.prog Try.f177 _ .ret _ _ from ret1 rfl zz6 e2 ⟨_, rfl, kw, ?_⟩)
  exact rfl
set_option maxRecDepth 100000 in
theorem written_ok (t : ByteArray) (w : World) : Calls Try.prog 169 #[.string t] w (Ret w fun u _ => u = .bool (wr t)) := by
  refine enter Try.func169 rfl Try.ntmps169 (lbr rfl) fun a0 y0 zz0 harg => ?_
  have e0 : sl a0 0 = (.string (t)) := harg 0 (lbr rfl)
  have kw := Keeps.refl All w
  clear harg
  refine wp_seq_k fun K1 hK1 => ?_
  refine rg mixed y0 zz0 ?_
  refine .i (sp_assign Has.cst) ?_
  refine .done ⟨by kernel_rfl, fun a2 g W2 y2 zz2 hk hg hV hR hP => ?_⟩
  obtain ⟨-, -⟩ := hV
  replace e0 := (hR 0 rfl).trans e0
  replace kw := kw.x hk
  clear hR hk hg hP
  refine tail_nil (hK1 _ _ ?_)
  refine wp_seq_k fun K3 hK3 => ?_
  refine rg mixed y2 zz2 ?_
  refine .i (sp_move (hbs rfl e0)) ?_
  refine .i (sp_lenS Try.underlying9 (hlc rfl)) ?_
  refine .i (sp_leq (hlc rfl) Has.cst) ?_
  refine .i (sp_move (hlc rfl)) ?_
  refine .e (t := 6) rfl (hlc rfl) (fun hg => sp_move (hbs rfl e0)) ?_
  refine .e (t := 6) (v := (.bool (utfOk t))) rfl (hlc rfl) (fun hg => sp_call1 (φ1 := Is (.string (t))) ent177 ((hlc rfl).undE hg) (fun g u1 W hk hgk h1 => by have h1 : u1 = _ := h1; subst u1; exact valid_ok (t) (by first | omega | (simp at hg; omega)) W)) ?_
  refine .i (sp_and (hlc rfl) ((hlc rfl).weak fun hq => hq)) ?_
  refine .i (sp_assign (hlc rfl)) ?_
  refine .done ⟨by kernel_rfl, fun a4 g W4 y4 zz4 hk hg hV hR hP => ?_⟩
  obtain ⟨e2, -, -, -, -, -, -, -, -⟩ := hV
  replace e2 := e2.q
  replace kw := kw.x hk
  clear hR hk hg hP
  refine tail_nil (hK3 _ _ ?_)
  refine wp_ret ?_
  refine (show bodyPost Try.prog Try.f169 _ .ret _ _ from ret1 rfl zz4 e2 ⟨_, rfl, kw, ?_⟩)
  congr 1; unfold wr; congr 1; exact decide_eq_decide.2 (by omega)
set_option maxRecDepth 100000 in
theorem proper_ok (x : V) (w : World) (S : BSet) (v : Value) (hv : Rd w S x.d v) : Calls Try.prog 151 #[v] w (Ret w fun u _ => u = .bool (properB x)) := by
  have hp := properG_eq x
  have hmn : x.ns.length ≤ maxLen := by obtain ⟨_, _, _, _, _, _, h, _⟩ := rdV_out hv; exact rd_lenS h
  simp only [maxLen] at hmn
  obtain ⟨cn0a, cn0c, ci0a, ci0c, ev, ht0, D_cn0, D_ci0⟩ := rdV_out (rd_arg hv)
  subst ev
  refine enter Try.func151 rfl Try.ntmps151 (lbr rfl) fun a0 y0 zz0 harg => ?_
  have e0 : sl a0 0 = (.agg #[(.int .u8 (x.k)), (.int .i64 (x.n)), (.string (x.t)), (.slice cn0a (x.ns.length) cn0c), (.slice ci0a (x.xs.length) ci0c)]) := harg 0 (lbr rfl)
  have kw := Keeps.refl All w
  clear harg
  refine wp_seq_k fun K1 hK1 => ?_
  refine rg mixed y0 zz0 ?_
  refine .boxOp (v := (.agg #[(.int .u8 (x.k)), (.int .i64 (x.n)), (.string (x.t)), (.slice cn0a (x.ns.length) cn0c), (.slice ci0a (x.xs.length) ci0c)])) (hbs rfl e0) ?_
  refine .i (sp_assign Has.cst) ?_
  refine .done ⟨by kernel_rfl, fun a2 g W2 y2 zz2 hk hg hV hR hP => ?_⟩
  obtain ⟨-, ⟨b1_2, e1, hb1, own_b1_2⟩, -⟩ := hV
  have lo_b1_2 : w.heap.size ≤ b1_2 := Nat.le_trans kw.size (hg.lo _ _ hb1)
  have own_b1_2 : Own W2 b1_2 [(.int .u8 (x.k)), (.int .i64 (x.n)), (.string (x.t)), (.slice cn0a (x.ns.length) cn0c), (.slice ci0a (x.xs.length) ci0c)] 33 := own_b1_2
  replace D_cn0 := sa_more D_cn0 hk [b1_2] (in_cons (hg.lo _ _ hb1) in_nil)
  replace D_ci0 := sa_more D_ci0 hk [b1_2] (in_cons (hg.lo _ _ hb1) in_nil)
  replace kw := kw.x hk
  clear hR hk hg hP hb1
  refine tail_nil (hK1 _ _ ?_)
  refine wp_seq_k fun K3 hK3 => ?_
  refine wp_seq_k fun K4 hK4 => ?_
  refine rg mixed y2 zz2 ?_
  refine .i (fo 0 (hbs rfl e1) Try.underlying33 rfl sz5 rfl) ?_
  refine .i (lo1 (hlc rfl) own_b1_2 trivial agg5 sz5 rfl) ?_
  refine .i (sp_neq (hlc rfl) Has.cst) ?_
  refine .i (sp_move (hlc rfl)) ?_
  refine .e (t := 8) rfl (hlc rfl) (fun hg => fo 0 (hbs rfl e1) Try.underlying33 rfl sz5 rfl) ?_
  refine .e (t := 8) rfl (hlc rfl) (fun hg => lo1 ((hlc rfl).undE hg) own_b1_2 trivial agg5 sz5 rfl) ?_
  refine .e (t := 8) rfl (hlc rfl) (fun hg => sp_neq ((hlc rfl).undE hg) Has.cst) ?_
  refine .i (sp_and (hlc rfl) ((hlc rfl).weak fun hq => hq)) ?_
  refine .i (sp_move (hlc rfl)) ?_
  refine .e (t := 13) rfl (hlc rfl) (fun hg => fo 1 (hbs rfl e1) Try.underlying33 rfl sz2 rfl) ?_
  refine .e (t := 13) rfl (hlc rfl) (fun hg => lo1 ((hlc rfl).undE hg) own_b1_2 trivial agg2 sz2 rfl) ?_
  refine .e (t := 13) rfl (hlc rfl) (fun hg => sp_neq ((hlc rfl).undE hg) Has.cst) ?_
  refine .i (sp_and (hlc rfl) ((hlc rfl).weak fun hq => hq)) ?_
  refine .i (sp_move (hlc rfl)) ?_
  refine .e (t := 18) rfl (hlc rfl) (fun hg => fo 0 (hbs rfl e1) Try.underlying33 rfl sz5 rfl) ?_
  refine .e (t := 18) rfl (hlc rfl) (fun hg => lo1 ((hlc rfl).undE hg) own_b1_2 trivial agg5 sz5 rfl) ?_
  refine .e (t := 18) rfl (hlc rfl) (fun hg => sp_neq ((hlc rfl).undE hg) Has.cst) ?_
  refine .e (t := 18) rfl (hlc rfl) (fun hg => sp_move ((hlc rfl).undE hg)) ?_
  refine .opEE (t := 22) (x := (x.k : Int) != (3 : Int)) (p := ((((x.k : Int) != (1 : Int)) && ((x.k : Int) != (2 : Int))) && ((x.n : Int) != (0 : Int))) = false) (φ := Is (.pointer (some ⟨b1_2, 2, none⟩))) rfl (hlc rfl) (st_is _) (fun hg => sp_fieldO (hbs rfl e1) Try.underlying33 rfl sz9 rfl) ?_
  refine .opEE (t := 22) (x := (x.k : Int) != (3 : Int)) (p := ((((x.k : Int) != (1 : Int)) && ((x.k : Int) != (2 : Int))) && ((x.n : Int) != (0 : Int))) = false) (φ := Is (.string (x.t))) rfl (hlc rfl) (st_is _) (fun hg => sp_loadO (v := (.string (x.t))) ((hlc rfl).undE hg) own_b1_2 trivial agg9 sz9 (lbr rfl) (fun h => by first | rfl | cases h) rfl) ?_
  refine .opEE (t := 22) (x := (x.k : Int) != (3 : Int)) (p := ((((x.k : Int) != (1 : Int)) && ((x.k : Int) != (2 : Int))) && ((x.n : Int) != (0 : Int))) = false) (φ := Is (.bool (!decide (x.t = (⟨#[]⟩ : ByteArray))))) rfl (hlc rfl) (st_is _) (fun hg => sp_sNeq ((hlc rfl).undE hg) Has.cst) ?_
  refine .e (t := 18) rfl (hlc rfl) (fun hg => sp_and ((hlc rfl).undE hg) ((hlc rfl).weak fun hq => ⟨hg, hq⟩)) ?_
  refine .i (sp_or (hlc rfl) ((hlc rfl).weak fun hq => hq)) ?_
  refine .done ⟨by kernel_rfl, fun a5 g W5 y5 zz5 hk hg hV hR hP => ?_⟩
  obtain ⟨e27, -, -, -, -, -, -, -, -, -, -, -, -, -, -, -, -, -, -, -, -, -, -, -⟩ := hV
  replace e1 := (hR 1 rfl).trans e1
  replace D_cn0 := D_cn0.ext hk
  replace D_ci0 := D_ci0.ext hk
  replace e27 := e27.q
  replace own_b1_2 := own_b1_2.ext hk
  replace kw := kw.x hk
  clear hR hk hg hP
  refine tail_nil (hK4 _ _ ?_)
  refine wp_cond_split e27 (fun hc => ?_) (fun hc => ?_)
  ·
   rw [hc, cond_true] at hp
   refine wp_seq_k fun K6 hK6 => ?_
   refine rg mixed y5 zz5 ?_
   refine .i (sp_assign Has.cst) ?_
   refine .done ⟨by kernel_rfl, fun a7 g W7 y7 zz7 hk hg hV hR hP => ?_⟩
   obtain ⟨e2, -⟩ := hV
   replace D_cn0 := D_cn0.ext hk
   replace D_ci0 := D_ci0.ext hk
   have e2 : sl a7 2 = (.bool (false)) := e2
   replace own_b1_2 := own_b1_2.ext hk
   replace kw := kw.x hk
   clear hR hk hg hP
   refine tail_nil (hK6 _ _ ?_)
   refine wp_ret ?_
   refine (show bodyPost Try.prog Try.f151 _ .ret _ _ from ret1 rfl zz7 e2 ⟨_, rfl, kw, ?_⟩)
   rw [hp]
  ·
   rw [hc, cond_false] at hp
   refine wp_skip (hK3 _ _ ?_)
   refine wp_seq_k fun K8 hK8 => ?_
   refine wp_seq_k fun K9 hK9 => ?_
   refine rg mixed y5 zz5 ?_
   refine .i (fo 0 (hbs rfl e1) Try.underlying33 rfl sz5 rfl) ?_
   refine .i (lo1 (hlc rfl) own_b1_2 trivial agg5 sz5 rfl) ?_
   refine .i (sp_neq (hlc rfl) Has.cst) ?_
   refine .i (sp_move (hlc rfl)) ?_
   refine .e (t := 31) rfl (hlc rfl) (fun hg => fo 3 (hbs rfl e1) Try.underlying33 rfl sz23 rfl) ?_
   refine .e (t := 31) rfl (hlc rfl) (fun hg => lo1 ((hlc rfl).undE hg) own_b1_2 trivial agg23 sz23 rfl) ?_
   refine .e (t := 31) rfl (hlc rfl) (fun hg => sp_lenSs Try.underlying23 (((hlc rfl).undE hg).dat D_cn0 sub_all)) ?_
   refine .e (t := 31) rfl (hlc rfl) (fun hg => sp_gtr ((hlc rfl).undE hg) Has.cst) ?_
   refine .i (sp_and (hlc rfl) ((hlc rfl).weak fun hq => hq)) ?_
   refine .i (sp_move (hlc rfl)) ?_
   refine .e (t := 37) rfl (hlc rfl) (fun hg => fo 0 (hbs rfl e1) Try.underlying33 rfl sz5 rfl) ?_
   refine .e (t := 37) rfl (hlc rfl) (fun hg => lo1 ((hlc rfl).undE hg) own_b1_2 trivial agg5 sz5 rfl) ?_
   refine .e (t := 37) rfl (hlc rfl) (fun hg => sp_neq ((hlc rfl).undE hg) Has.cst) ?_
   refine .e (t := 37) rfl (hlc rfl) (fun hg => sp_move ((hlc rfl).undE hg)) ?_
   refine .opEE (t := 41) (x := (x.k : Int) != (5 : Int)) (p := (((x.k : Int) != (5 : Int)) && (decide ((0 : Int) < (x.ns.length : Int)))) = false) (φ := Is (.pointer (some ⟨b1_2, 0, none⟩))) rfl (hlc rfl) (st_is _) (fun hg => sp_fieldO (hbs rfl e1) Try.underlying33 rfl sz5 rfl) ?_
   refine .opEE (t := 41) (x := (x.k : Int) != (5 : Int)) (p := (((x.k : Int) != (5 : Int)) && (decide ((0 : Int) < (x.ns.length : Int)))) = false) (φ := Is (.int .u8 (x.k))) rfl (hlc rfl) (st_is _) (fun hg => sp_loadO (v := (.int .u8 (x.k))) ((hlc rfl).undE hg) own_b1_2 trivial agg5 sz5 (lbr rfl) (fun h => by first | rfl | cases h) rfl) ?_
   refine .opEE (t := 41) (x := (x.k : Int) != (5 : Int)) (p := (((x.k : Int) != (5 : Int)) && (decide ((0 : Int) < (x.ns.length : Int)))) = false) (φ := Is (.bool ((x.k : Int) != (4 : Int)))) rfl (hlc rfl) (st_is _) (fun hg => sp_neq ((hlc rfl).undE hg) Has.cst) ?_
   refine .e (t := 37) rfl (hlc rfl) (fun hg => sp_and ((hlc rfl).undE hg) ((hlc rfl).weak fun hq => ⟨hg, hq⟩)) ?_
   refine .e (t := 37) rfl (hlc rfl) (fun hg => sp_move ((hlc rfl).undE hg)) ?_
   refine .opEE (t := 46) (x := ((x.k : Int) != (5 : Int)) && ((x.k : Int) != (4 : Int))) (p := (((x.k : Int) != (5 : Int)) && (decide ((0 : Int) < (x.ns.length : Int)))) = false) (φ := Is (.pointer (some ⟨b1_2, 4, none⟩))) rfl (hlc rfl) (st_is _) (fun hg => sp_fieldO (hbs rfl e1) Try.underlying33 rfl sz31 rfl) ?_
   refine .opEE (t := 46) (x := ((x.k : Int) != (5 : Int)) && ((x.k : Int) != (4 : Int))) (p := (((x.k : Int) != (5 : Int)) && (decide ((0 : Int) < (x.ns.length : Int)))) = false) (φ := Is (.slice ci0a (x.xs.length) ci0c)) rfl (hlc rfl) (st_is _) (fun hg => sp_loadO (v := (.slice ci0a (x.xs.length) ci0c)) ((hlc rfl).undE hg) own_b1_2 trivial agg31 sz31 (lbr rfl) (fun h => by first | rfl | cases h) rfl) ?_
   refine .opEE (t := 46) (x := ((x.k : Int) != (5 : Int)) && ((x.k : Int) != (4 : Int))) (p := (((x.k : Int) != (5 : Int)) && (decide ((0 : Int) < (x.ns.length : Int)))) = false) (φ := Is (.int .i64 (x.xs.length))) rfl (hlc rfl) (st_is _) (fun hg => sp_lenVs Try.underlying31 (((hlc rfl).undE hg).dat D_ci0 sub_all)) ?_
   refine .opEE (t := 46) (x := ((x.k : Int) != (5 : Int)) && ((x.k : Int) != (4 : Int))) (p := (((x.k : Int) != (5 : Int)) && (decide ((0 : Int) < (x.ns.length : Int)))) = false) (φ := Is (.bool (decide ((0 : Int) < (x.xs.length : Int))))) rfl (hlc rfl) (st_is _) (fun hg => sp_gtr ((hlc rfl).undE hg) Has.cst) ?_
   refine .e (t := 37) rfl (hlc rfl) (fun hg => sp_and ((hlc rfl).undE hg) ((hlc rfl).weak fun hq => ⟨hg, hq⟩)) ?_
   refine .i (sp_or (hlc rfl) ((hlc rfl).weak fun hq => hq)) ?_
   refine .done ⟨by kernel_rfl, fun a10 g W10 y10 zz10 hk hg hV hR hP => ?_⟩
   obtain ⟨e52, -, -, -, -, -, -, -, -, -, -, -, -, -, -, -, -, -, -, -, -, -, -, -, -, -⟩ := hV
   replace e1 := (hR 1 rfl).trans e1
   replace D_cn0 := D_cn0.ext hk
   replace D_ci0 := D_ci0.ext hk
   replace e52 := e52.q
   replace own_b1_2 := own_b1_2.ext hk
   replace kw := kw.x hk
   clear hR hk hg hP
   refine tail_nil (hK9 _ _ ?_)
   refine wp_cond_split e52 (fun hc => ?_) (fun hc => ?_)
   ·
    rw [hc, cond_true] at hp
    refine wp_seq_k fun K11 hK11 => ?_
    refine rg mixed y10 zz10 ?_
    refine .i (sp_assign Has.cst) ?_
    refine .done ⟨by kernel_rfl, fun a12 g W12 y12 zz12 hk hg hV hR hP => ?_⟩
    obtain ⟨e2, -⟩ := hV
    replace D_cn0 := D_cn0.ext hk
    replace D_ci0 := D_ci0.ext hk
    have e2 : sl a12 2 = (.bool (false)) := e2
    replace own_b1_2 := own_b1_2.ext hk
    replace kw := kw.x hk
    clear hR hk hg hP
    refine tail_nil (hK11 _ _ ?_)
    refine wp_ret ?_
    refine (show bodyPost Try.prog Try.f151 _ .ret _ _ from ret1 rfl zz12 e2 ⟨_, rfl, kw, ?_⟩)
    rw [hp]
   ·
    rw [hc, cond_false] at hp
    refine wp_skip (hK8 _ _ ?_)
    refine wp_seq_k fun K13 hK13 => ?_
    refine wp_seq_k fun K14 hK14 => ?_
    refine rg mixed y10 zz10 ?_
    refine .i (fo 0 (hbs rfl e1) Try.underlying33 rfl sz5 rfl) ?_
    refine .i (lo1 (hlc rfl) own_b1_2 trivial agg5 sz5 rfl) ?_
    refine .done ⟨by kernel_rfl, fun a15 g W15 y15 zz15 hk hg hV hR hP => ?_⟩
    obtain ⟨e54, -, -⟩ := hV
    replace e1 := (hR 1 rfl).trans e1
    replace D_cn0 := D_cn0.ext hk
    replace D_ci0 := D_ci0.ext hk
    have e54 : sl a15 54 = (.int .u8 (x.k)) := e54
    replace own_b1_2 := own_b1_2.ext hk
    replace kw := kw.x hk
    clear hR hk hg hP
    refine tail_nil (hK14 _ _ ?_)
    refine wp_block ?_
    refine wp_seq_k fun K16 hK16 => ?_
    refine rg mixed y15 zz15 ?_
    refine .i (sp_eql (hbs rfl e54) Has.cst) ?_
    refine .i (sp_assign (hlc rfl)) ?_
    refine .done ⟨by kernel_rfl, fun a17 g W17 y17 zz17 hk hg hV hR hP => ?_⟩
    obtain ⟨e55, -, -⟩ := hV
    replace e1 := (hR 1 rfl).trans e1
    replace e54 := (hR 54 rfl).trans e54
    replace D_cn0 := D_cn0.ext hk
    replace D_ci0 := D_ci0.ext hk
    have e55 : sl a17 55 = (.bool ((x.k : Int) == (1 : Int))) := e55
    replace own_b1_2 := own_b1_2.ext hk
    replace kw := kw.x hk
    clear hR hk hg hP
    refine tail_nil (hK16 _ _ ?_)
    refine wp_cond_split e55 (fun hc => ?_) (fun hc => ?_)
    ·
     rw [hc, cond_true] at hp
     refine wp_seq_k fun K18 hK18 => ?_
     refine rg mixed y17 zz17 ?_
     refine .i (fo 1 (hbs rfl e1) Try.underlying33 rfl sz2 rfl) ?_
     refine .i (lo1 (hlc rfl) own_b1_2 trivial agg2 sz2 rfl) ?_
     refine .i (sp_eql (hlc rfl) Has.cst) ?_
     refine .i (sp_move (hlc rfl)) ?_
     refine .e (t := 60) rfl (hlc rfl) (fun hg => fo 1 (hbs rfl e1) Try.underlying33 rfl sz2 rfl) ?_
     refine .e (t := 60) rfl (hlc rfl) (fun hg => lo1 ((hlc rfl).undE hg) own_b1_2 trivial agg2 sz2 rfl) ?_
     refine .e (t := 60) rfl (hlc rfl) (fun hg => sp_eql ((hlc rfl).undE hg) Has.cst) ?_
     refine .i (sp_or (hlc rfl) ((hlc rfl).weak fun hq => hq)) ?_
     refine .i (sp_assign (hlc rfl)) ?_
     refine .done ⟨by kernel_rfl, fun a19 g W19 y19 zz19 hk hg hV hR hP => ?_⟩
     obtain ⟨e2, -, -, -, -, -, -, -, -, -⟩ := hV
     replace D_cn0 := D_cn0.ext hk
     replace D_ci0 := D_ci0.ext hk
     replace e2 := e2.q
     replace own_b1_2 := own_b1_2.ext hk
     replace kw := kw.x hk
     clear hR hk hg hP
     refine tail_nil (hK18 _ _ ?_)
     refine wp_ret ?_
     refine (show bodyPost Try.prog Try.f151 _ .ret _ _ from ret1 rfl zz19 e2 ⟨_, rfl, kw, ?_⟩)
     rw [hp]
    ·
     rw [hc, cond_false] at hp
     refine wp_seq_k fun K20 hK20 => ?_
     refine wp_seq_k fun K21 hK21 => ?_
     refine rg mixed y17 zz17 ?_
     refine .i (sp_eql (hbs rfl e54) Has.cst) ?_
     refine .i (sp_assign (hlc rfl)) ?_
     refine .done ⟨by kernel_rfl, fun a22 g W22 y22 zz22 hk hg hV hR hP => ?_⟩
     obtain ⟨e65, -, -⟩ := hV
     replace e1 := (hR 1 rfl).trans e1
     replace e54 := (hR 54 rfl).trans e54
     replace D_cn0 := D_cn0.ext hk
     replace D_ci0 := D_ci0.ext hk
     have e65 : sl a22 65 = (.bool ((x.k : Int) == (2 : Int))) := e65
     replace own_b1_2 := own_b1_2.ext hk
     replace kw := kw.x hk
     clear hR hk hg hP
     refine tail_nil (hK21 _ _ ?_)
     refine wp_cond_split e65 (fun hc => ?_) (fun hc => ?_)
     ·
      rw [hc, cond_true] at hp
      have hc3 := hc
      refine wp_skip (hK20 _ _ ?_)
      refine wp_cond_split e65 (fun hc => ?_) (fun hc => ?_)
      ·
       refine wp_seq_k fun K23 hK23 => ?_
       refine rg mixed y22 zz22 ?_
       refine .i (sp_assign Has.cst) ?_
       refine .done ⟨by kernel_rfl, fun a24 g W24 y24 zz24 hk hg hV hR hP => ?_⟩
       obtain ⟨e2, -⟩ := hV
       replace D_cn0 := D_cn0.ext hk
       replace D_ci0 := D_ci0.ext hk
       have e2 : sl a24 2 = (.bool (true)) := e2
       replace own_b1_2 := own_b1_2.ext hk
       replace kw := kw.x hk
       clear hR hk hg hP
       refine tail_nil (hK23 _ _ ?_)
       refine wp_ret ?_
       refine (show bodyPost Try.prog Try.f151 _ .ret _ _ from ret1 rfl zz24 e2 ⟨_, rfl, kw, ?_⟩)
       rw [hp]
      ·
       rw [hc3] at hc; cases hc
     ·
      rw [hc, cond_false] at hp
      refine rg mixed y22 zz22 ?_
      refine .i (sp_eql (hbs rfl e54) Has.cst) ?_
      refine .i (sp_assign (hlc rfl)) ?_
      refine .done ⟨by kernel_rfl, fun a25 g W25 y25 zz25 hk hg hV hR hP => ?_⟩
      obtain ⟨e65, -, -⟩ := hV
      replace e1 := (hR 1 rfl).trans e1
      replace e54 := (hR 54 rfl).trans e54
      replace D_cn0 := D_cn0.ext hk
      replace D_ci0 := D_ci0.ext hk
      have e65 : sl a25 65 = (.bool ((x.k : Int) == (4 : Int))) := e65
      replace own_b1_2 := own_b1_2.ext hk
      replace kw := kw.x hk
      clear hR hk hg hP
      refine tail_nil (hK20 _ _ ?_)
      refine wp_cond_split e65 (fun hc => ?_) (fun hc => ?_)
      ·
       rw [hc, cond_true] at hp
       refine wp_seq_k fun K26 hK26 => ?_
       refine rg mixed y25 zz25 ?_
       refine .i (sp_assign Has.cst) ?_
       refine .done ⟨by kernel_rfl, fun a27 g W27 y27 zz27 hk hg hV hR hP => ?_⟩
       obtain ⟨e2, -⟩ := hV
       replace D_cn0 := D_cn0.ext hk
       replace D_ci0 := D_ci0.ext hk
       have e2 : sl a27 2 = (.bool (true)) := e2
       replace own_b1_2 := own_b1_2.ext hk
       replace kw := kw.x hk
       clear hR hk hg hP
       refine tail_nil (hK26 _ _ ?_)
       refine wp_ret ?_
       refine (show bodyPost Try.prog Try.f151 _ .ret _ _ from ret1 rfl zz27 e2 ⟨_, rfl, kw, ?_⟩)
       rw [hp]
      ·
       rw [hc, cond_false] at hp
       refine wp_seq_k fun K28 hK28 => ?_
       refine rg mixed y25 zz25 ?_
       refine .i (sp_eql (hbs rfl e54) Has.cst) ?_
       refine .i (sp_assign (hlc rfl)) ?_
       refine .done ⟨by kernel_rfl, fun a29 g W29 y29 zz29 hk hg hV hR hP => ?_⟩
       obtain ⟨e68, -, -⟩ := hV
       replace e1 := (hR 1 rfl).trans e1
       replace e54 := (hR 54 rfl).trans e54
       replace D_cn0 := D_cn0.ext hk
       replace D_ci0 := D_ci0.ext hk
       have e68 : sl a29 68 = (.bool ((x.k : Int) == (3 : Int))) := e68
       replace own_b1_2 := own_b1_2.ext hk
       replace kw := kw.x hk
       clear hR hk hg hP
       refine tail_nil (hK28 _ _ ?_)
       refine wp_cond_split e68 (fun hc => ?_) (fun hc => ?_)
       ·
        rw [hc, cond_true] at hp
        refine wp_seq_k fun K30 hK30 => ?_
        refine rg mixed y29 zz29 ?_
        refine .i (fo 2 (hbs rfl e1) Try.underlying33 rfl sz9 rfl) ?_
        refine .i (lo1 (hlc rfl) own_b1_2 trivial agg9 sz9 rfl) ?_
        refine .i (v := (.bool (wr x.t))) (sp_call1 (φ1 := Is (.string (x.t))) ent169 (hlc rfl) (fun g u1 W hk hgk h1 => by have h1 : u1 = _ := h1; subst u1; exact written_ok (x.t) W)) ?_
        refine .i (sp_assign (hlc rfl)) ?_
        refine .done ⟨by kernel_rfl, fun a31 g W31 y31 zz31 hk hg hV hR hP => ?_⟩
        obtain ⟨e2, -, -, -, -⟩ := hV
        replace D_cn0 := D_cn0.ext hk
        replace D_ci0 := D_ci0.ext hk
        have e2 : sl a31 2 = (.bool (wr x.t)) := e2
        replace own_b1_2 := own_b1_2.ext hk
        replace kw := kw.x hk
        clear hR hk hg hP
        refine tail_nil (hK30 _ _ ?_)
        refine wp_ret ?_
        refine (show bodyPost Try.prog Try.f151 _ .ret _ _ from ret1 rfl zz31 e2 ⟨_, rfl, kw, ?_⟩)
        rw [hp]
       ·
        rw [hc, cond_false] at hp
        refine wp_seq_k fun K32 hK32 => ?_
        refine rg mixed y29 zz29 ?_
        refine .i (sp_eql (hbs rfl e54) Has.cst) ?_
        refine .i (sp_assign (hlc rfl)) ?_
        refine .done ⟨by kernel_rfl, fun a33 g W33 y33 zz33 hk hg hV hR hP => ?_⟩
        obtain ⟨e73, -, -⟩ := hV
        replace e1 := (hR 1 rfl).trans e1
        replace D_cn0 := D_cn0.ext hk
        replace D_ci0 := D_ci0.ext hk
        have e73 : sl a33 73 = (.bool ((x.k : Int) == (5 : Int))) := e73
        replace own_b1_2 := own_b1_2.ext hk
        replace kw := kw.x hk
        clear hR hk hg hP
        refine tail_nil (hK32 _ _ ?_)
        refine wp_cond_split e73 (fun hc => ?_) (fun hc => ?_)
        ·
         rw [hc, cond_true] at hp
         refine wp_seq_k fun K34 hK34 => ?_
         refine wp_seq_k fun K35 hK35 => ?_
         refine rg mixed y33 zz33 ?_
         refine .i (fo 3 (hbs rfl e1) Try.underlying33 rfl sz23 rfl) ?_
         refine .i (lo1 (hlc rfl) own_b1_2 trivial agg23 sz23 rfl) ?_
         refine .i (sp_lenSs Try.underlying23 ((hlc rfl).dat D_cn0 sub_all)) ?_
         refine .i (fo 4 (hbs rfl e1) Try.underlying33 rfl sz31 rfl) ?_
         refine .i (lo1 (hlc rfl) own_b1_2 trivial agg31 sz31 rfl) ?_
         refine .i (sp_lenVs Try.underlying31 ((hlc rfl).dat D_ci0 sub_all)) ?_
         refine .i (sp_neq (hlc rfl) (hlc rfl)) ?_
         refine .i (sp_move (hlc rfl)) ?_
         refine .e (t := 82) rfl (hlc rfl) (fun hg => fo 3 (hbs rfl e1) Try.underlying33 rfl sz23 rfl) ?_
         refine .e (t := 82) rfl (hlc rfl) (fun hg => lo1 ((hlc rfl).undE hg) own_b1_2 trivial agg23 sz23 rfl) ?_
         refine .e (t := 82) (v := (.bool (asc x.ns))) rfl (hlc rfl) (fun hg => sp_call1 (φ1 := IsD (SA w S [b1_2]) (strsD (x.ns))) ent164 (((hlc rfl).undE hg).dat D_cn0 sub_all) (fun g u1 W hk hgk h1 => ascending_ok (x.ns) W _ _ h1)) ?_
         refine .e (t := 82) rfl (hlc rfl) (fun hg => sp_not ((hlc rfl).undE hg)) ?_
         refine .i (sp_or (hlc rfl) ((hlc rfl).weak fun hq => hq)) ?_
         refine .done ⟨by kernel_rfl, fun a36 g W36 y36 zz36 hk hg hV hR hP => ?_⟩
         obtain ⟨e87, -, -, -, -, -, -, -, -, -, -, -, -, -⟩ := hV
         replace e1 := (hR 1 rfl).trans e1
         replace D_cn0 := D_cn0.ext hk
         replace D_ci0 := D_ci0.ext hk
         replace e87 := e87.q
         replace own_b1_2 := own_b1_2.ext hk
         replace kw := kw.x hk
         clear hR hk hg hP
         refine tail_nil (hK35 _ _ ?_)
         refine wp_cond_split e87 (fun hc => ?_) (fun hc => ?_)
         ·
          rw [hc, cond_true] at hp
          refine wp_seq_k fun K37 hK37 => ?_
          refine rg mixed y36 zz36 ?_
          refine .i (sp_assign Has.cst) ?_
          refine .done ⟨by kernel_rfl, fun a38 g W38 y38 zz38 hk hg hV hR hP => ?_⟩
          obtain ⟨e2, -⟩ := hV
          replace D_cn0 := D_cn0.ext hk
          replace D_ci0 := D_ci0.ext hk
          have e2 : sl a38 2 = (.bool (false)) := e2
          replace own_b1_2 := own_b1_2.ext hk
          replace kw := kw.x hk
          clear hR hk hg hP
          refine tail_nil (hK37 _ _ ?_)
          refine wp_ret ?_
          refine (show bodyPost Try.prog Try.f151 _ .ret _ _ from ret1 rfl zz38 e2 ⟨_, rfl, kw, ?_⟩)
          rw [hp]
         ·
          rw [hc, cond_false] at hp
          refine wp_skip (hK34 _ _ ?_)
          refine wp_seq_k fun K39 hK39 => ?_
          refine wp_seq_k fun K40 hK40 => ?_
          refine rg mixed y36 zz36 ?_
          refine .i (fo 3 (hbs rfl e1) Try.underlying33 rfl sz23 rfl) ?_
          refine .i (lo1 (hlc rfl) own_b1_2 trivial agg23 sz23 rfl) ?_
          refine .i (sp_lenSs Try.underlying23 ((hlc rfl).dat D_cn0 sub_all)) ?_
          refine .i (sp_move Has.cst) ?_
          refine .done ⟨by kernel_rfl, fun a41 g W41 y41 zz41 hk hg hV hR hP => ?_⟩
          obtain ⟨e91, e90, e89, -, -⟩ := hV
          replace D_cn0 := D_cn0.ext hk
          replace D_ci0 := D_ci0.ext hk
          have e89 : sl a41 89 = (.slice cn0a (x.ns.length) cn0c) := e89
          have e90 : sl a41 90 = (.int .i64 (x.ns.length)) := e90
          have e91 : sl a41 91 = (.int .i64 (0)) := e91
          replace own_b1_2 := own_b1_2.ext hk
          replace kw := kw.x hk
          clear hR hk hg hP
          refine tail_nil (hK40 _ _ ?_)
          refine wp_block ?_
          replace D_cn0 := sa_less (M' := []) D_cn0 ls_nil
          refine wp_for (x.ns.length) (fun k a W => a.tmps.size = 99 ∧ a.defers = [] ∧ Keeps All w W ∧ sl a 89 = (.slice cn0a (x.ns.length) cn0c) ∧ sl a 90 = (.int .i64 (x.ns.length)) ∧ sl a 91 = (.int .i64 ((k : Nat))) ∧ Rd W (SA w S []) (strsD (x.ns)) (.slice cn0a (x.ns.length) cn0c) ∧ (∀ i (h1 : i < x.ns.length), i < k → wr x.ns[i] = true)) ⟨y41, zz41, kw, e89, e90, (e91.trans (congrArg (Value.int .i64) (rfl))), D_cn0, fun i h1 hi => absurd hi (by omega)⟩ ?_
          clear kw e89 e90 e91 D_cn0
          rintro k a42 W42 hkk ⟨y42, zz42, kw, e89, e90, e91, D_cn0, hinv⟩
          refine wp_seq_k fun K43 hK43 => ?_
          refine rg mixed y42 zz42 ?_
          refine .i (sp_lss (hbs rfl e91) (hbs rfl e90)) ?_
          refine .done ⟨by kernel_rfl, fun a44 g W44 y44 zz44 hk hg hV hR hP => ?_⟩
          obtain ⟨e92, -⟩ := hV
          replace e89 := (hR 89 rfl).trans e89
          replace e90 := (hR 90 rfl).trans e90
          replace e91 := (hR 91 rfl).trans e91
          replace D_cn0 := D_cn0.ext hk
          replace e92 := e92.q
          replace kw := kw.x hk
          clear hR hk hg hP
          refine tail_nil (hK43 _ _ ?_)
          refine wp_seq_k fun K45 hK45 => ?_
          refine wp_cond_split e92 (fun hc => ?_) (fun hc => ?_)
          ·
           have hlt : k < x.ns.length := by simpa using hc
           refine wp_skip (hK45 _ _ ?_)
           refine wp_seq_k fun K46 hK46 => ?_
           refine wp_block ?_
           refine wp_seq_k fun K47 hK47 => ?_
           refine rg mixed y44 zz44 ?_
           refine .rf (sp_indexS (i := k) ((hbs rfl e89).dat D_cn0 sub_all) (hbs rfl e91) Try.underlying23 sz9 rfl hlt) ?_
           refine .i (sp_loadStr (hlc rfl) agg9 sz9) ?_
           refine .i (sp_assign (hlc rfl)) ?_
           refine .done ⟨by kernel_rfl, fun a48 g W48 y48 zz48 hk hg hV hR hP => ?_⟩
           obtain ⟨e4, -, -, -⟩ := hV
           replace e89 := (hR 89 rfl).trans e89
           replace e90 := (hR 90 rfl).trans e90
           replace e91 := (hR 91 rfl).trans e91
           replace D_cn0 := D_cn0.ext hk
           have e4 : sl a48 4 = (.string (x.ns[k]'hlt)) := e4
           replace kw := kw.x hk
           clear hR hk hg hP
           refine tail_nil (hK47 _ _ ?_)
           refine wp_seq_k fun K49 hK49 => ?_
           refine rg mixed y48 zz48 ?_
           refine .i (sp_move (hbs rfl e4)) ?_
           refine .i (v := (.bool (wr (x.ns[k]'hlt)))) (sp_call1 (φ1 := Is (.string (x.ns[k]'hlt))) ent169 (hlc rfl) (fun g u1 W hk hgk h1 => by have h1 : u1 = _ := h1; subst u1; exact written_ok (x.ns[k]'hlt) W)) ?_
           refine .i (sp_not (hlc rfl)) ?_
           refine .done ⟨by kernel_rfl, fun a50 g W50 y50 zz50 hk hg hV hR hP => ?_⟩
           obtain ⟨e97, -, -, -⟩ := hV
           replace e89 := (hR 89 rfl).trans e89
           replace e90 := (hR 90 rfl).trans e90
           replace e91 := (hR 91 rfl).trans e91
           replace D_cn0 := D_cn0.ext hk
           have e97 : sl a50 97 = (.bool (!(wr (x.ns[k]'hlt)))) := e97
           replace kw := kw.x hk
           clear hR hk hg hP
           refine tail_nil (hK49 _ _ ?_)
           refine wp_cond_split e97 (fun hc => ?_) (fun hc => ?_)
           ·
            rw [List.all_eq_false.2 ⟨_, List.getElem_mem hlt, by simpa using hc⟩] at hp
            refine wp_seq_k fun K51 hK51 => ?_
            refine rg mixed y50 zz50 ?_
            refine .i (sp_assign Has.cst) ?_
            refine .done ⟨by kernel_rfl, fun a52 g W52 y52 zz52 hk hg hV hR hP => ?_⟩
            obtain ⟨e2, -⟩ := hV
            replace D_cn0 := D_cn0.ext hk
            have e2 : sl a52 2 = (.bool (false)) := e2
            replace kw := kw.x hk
            clear hR hk hg hP
            refine tail_nil (hK51 _ _ ?_)
            refine wp_ret ?_
            refine (show bodyPost Try.prog Try.f151 _ .ret _ _ from ret1 rfl zz52 e2 ⟨_, rfl, kw, ?_⟩)
            rw [hp]
           ·
            have hk1 : wr x.ns[k] = true := by simpa using hc
            refine wp_skip (hK46 _ _ ?_)
            refine rg mixed y50 zz50 ?_
            refine .i (sp_add (hbs rfl e91) Has.cst (i64_in (by omega))) ?_
            refine .i (sp_move (hlc rfl)) ?_
            refine .done ⟨by kernel_rfl, fun a53 g W53 y53 zz53 hk hg hV hR hP => ?_⟩
            obtain ⟨e91, -, -⟩ := hV
            replace e89 := (hR 89 rfl).trans e89
            replace e90 := (hR 90 rfl).trans e90
            replace D_cn0 := D_cn0.ext hk
            replace e91 := e91.q
            replace kw := kw.x hk
            clear hR hk hg hP
            exact tail_nil ⟨hlt, y53, zz53, kw, e89, e90, (e91.trans (congrArg (Value.int .i64) (by simp))), D_cn0, fun i h1 hi => by rcases Nat.lt_succ_iff_lt_or_eq.1 hi with h | h; exact hinv i h1 h; subst h; exact hk1⟩
          ·
           have hge0 : ¬ k < x.ns.length := by simpa using hc
           have hge : k = x.ns.length := by omega
           rw [List.all_eq_true.2 (fun q hq => by obtain ⟨i, h1, rfl⟩ := List.getElem_of_mem hq; exact hinv i h1 (by omega))] at hp
           refine wp_exit (hK39 _ _ ?_)
           refine wp_seq_k fun K54 hK54 => ?_
           refine rg mixed y44 zz44 ?_
           refine .i (sp_assign Has.cst) ?_
           refine .done ⟨by kernel_rfl, fun a55 g W55 y55 zz55 hk hg hV hR hP => ?_⟩
           obtain ⟨e2, -⟩ := hV
           replace D_cn0 := D_cn0.ext hk
           have e2 : sl a55 2 = (.bool (true)) := e2
           replace kw := kw.x hk
           clear hR hk hg hP
           refine tail_nil (hK54 _ _ ?_)
           refine wp_ret ?_
           refine (show bodyPost Try.prog Try.f151 _ .ret _ _ from ret1 rfl zz55 e2 ⟨_, rfl, kw, ?_⟩)
           rw [hp]
        ·
         rw [hc, cond_false] at hp
         refine wp_skip (hK13 _ _ ?_)
         refine wp_seq_k fun K56 hK56 => ?_
         refine rg mixed y33 zz33 ?_
         refine .i (sp_assign Has.cst) ?_
         refine .done ⟨by kernel_rfl, fun a57 g W57 y57 zz57 hk hg hV hR hP => ?_⟩
         obtain ⟨e2, -⟩ := hV
         replace D_cn0 := D_cn0.ext hk
         replace D_ci0 := D_ci0.ext hk
         have e2 : sl a57 2 = (.bool (false)) := e2
         replace own_b1_2 := own_b1_2.ext hk
         replace kw := kw.x hk
         clear hR hk hg hP
         refine tail_nil (hK56 _ _ ?_)
         refine wp_ret ?_
         refine (show bodyPost Try.prog Try.f151 _ .ret _ _ from ret1 rfl zz57 e2 ⟨_, rfl, kw, ?_⟩)
         rw [hp]
end Go.Proofs.Ytnobijngkpflcaa
namespace Go.Proofs.Ytnobijngkpflcaa
open Go.Eng
set_option maxRecDepth 100000 in
theorem may_all : ∀ (n : Nat) (x : V), x.cnt ≤ n → n ≤ 1073741824 → ∀ (nested : Nat) (left : Int), nested ≤ 12 → 0 ≤ left → left ≤ 8192 → ∀ (w : World) (S : BSet) (v : Value) (bL : Nat), (∀ o, ¬ S bL o) → Own w bL [.int .i64 left] 3 → Rd w S x.d v →
    Calls Try.prog 134 #[v, .int .i64 nested, .pointer (some ⟨bL, 0, none⟩)] w (RetB w bL fun u w' => u = .bool (mayV x nested left).1 ∧ Own w' bL [.int .i64 (mayV x nested left).2] 3) := by
  intro n
  induction n with
  | zero => intro x hx; cases x; simp [V.cnt] at hx
  | succ n ih =>
  intro x hx hn nested left hnst hl0 hl w S v bL hbL own_bL hv
  have hM : ∀ b ∈ [bL], ∀ o, ¬ S b o := by simpa using hbL
  have hcx := cnt_eq x
  have hlx := len_cnts x.xs
  have hme := mayV_eq x nested left
  obtain ⟨cn0a, cn0c, ci0a, ci0c, ev, ht0, D_cn0, D_ci0⟩ := rdV_out (rd_argM (M := [bL]) hv hM)
  subst ev
  refine enter Try.func134 rfl Try.ntmps134 (lbr rfl) fun a0 y0 zz0 harg => ?_
  have e0 : sl a0 0 = (.agg #[(.int .u8 (x.k)), (.int .i64 (x.n)), (.string (x.t)), (.slice cn0a (x.ns.length) cn0c), (.slice ci0a (x.xs.length) ci0c)]) := harg 0 (lbr rfl)
  have e1 : sl a0 1 = (.int .i64 ((nested : Nat))) := harg 1 (lbr rfl)
  have e2 : sl a0 2 = (.pointer (some ⟨bL, 0, none⟩)) := harg 2 (lbr rfl)
  have kw := Keeps.refl (fun k => k ≠ bL) w
  clear harg
  refine wp_seq_k fun K1 hK1 => ?_
  refine rg mixed y0 zz0 ?_
  refine .boxOp (v := (.agg #[(.int .u8 (x.k)), (.int .i64 (x.n)), (.string (x.t)), (.slice cn0a (x.ns.length) cn0c), (.slice ci0a (x.xs.length) ci0c)])) (hbs rfl e0) ?_
  refine .i (sp_assign Has.cst) ?_
  refine .done ⟨by kernel_rfl, fun a2 g W2 y2 zz2 hk hg hV hR hP => ?_⟩
  obtain ⟨-, ⟨b3_2, e3, hb3, own_b3_2⟩, -⟩ := hV
  have lo_b3_2 : w.heap.size ≤ b3_2 := Nat.le_trans kw.size (hg.lo _ _ hb3)
  have ne_bL_b3_2 : bL ≠ b3_2 := Nat.ne_of_lt (Nat.lt_of_lt_of_le own_bL.lt (hg.lo _ _ hb3))
  have own_b3_2 : Own W2 b3_2 [(.int .u8 (x.k)), (.int .i64 (x.n)), (.string (x.t)), (.slice cn0a (x.ns.length) cn0c), (.slice ci0a (x.xs.length) ci0c)] 33 := own_b3_2
  replace e1 := (hR 1 rfl).trans e1
  replace e2 := (hR 2 rfl).trans e2
  replace D_cn0 := sa_more D_cn0 hk [b3_2] (in_cons (hg.lo _ _ hb3) in_nil)
  replace D_ci0 := sa_more D_ci0 hk [b3_2] (in_cons (hg.lo _ _ hb3) in_nil)
  replace own_bL := own_bL.ext hk
  replace kw := kw.x hk
  clear hR hk hg hP hb3
  refine tail_nil (hK1 _ _ ?_)
  refine wp_seq_k fun K3 hK3 => ?_
  refine rg mixed y2 zz2 ?_
  refine .i (sp_move (hbs rfl e2)) ?_
  refine .i (sp_nilP (hlc rfl)) ?_
  refine .i (lo1 (hlc rfl) own_bL trivial agg3 sz3 rfl) ?_
  refine .i (sp_sub (hlc rfl) Has.cst (i64_in (by omega))) ?_
  refine .i (sp_nilP (hlc rfl)) ?_
  refine .done ⟨by kernel_rfl, fun a4 g W4 y4 zz4 hk hg hV hR hP => ?_⟩
  obtain ⟨e13, e12, -, -, -, -⟩ := hV
  replace e1 := (hR 1 rfl).trans e1
  replace e2 := (hR 2 rfl).trans e2
  replace e3 := (hR 3 rfl).trans e3
  replace D_cn0 := D_cn0.ext hk
  replace D_ci0 := D_ci0.ext hk
  have e12 : sl a4 12 = (.int .i64 ((left : Int) - (1 : Int))) := e12
  have e13 : sl a4 13 = (.pointer (some ⟨bL, 0, none⟩)) := e13
  replace own_bL := own_bL.ext hk
  replace own_b3_2 := own_b3_2.ext hk
  replace kw := kw.x hk
  clear hR hk hg hP
  refine tail_store (b := bL) (o := 0) (v := (.int .i64 ((left : Int) - (1 : Int)))) e13 e12 sz3 rfl own_bL (lbr rfl) (all_cons rfl all_nil) (fun W5 hs own_bL => ?_)
  have own_bL : Own W5 bL [(.int .i64 ((left : Int) - (1 : Int)))] 3 := own_bL
  replace own_b3_2 := own_store own_b3_2 hs ne_bL_b3_2.symm
  replace D_cn0 := sa_store D_cn0 hs (by simp)
  replace D_ci0 := sa_store D_ci0 hs (by simp)
  replace kw := kw.trans hs
  clear hs
  refine tail_nil (hK3 _ _ ?_)
  refine wp_seq_k fun K6 hK6 => ?_
  refine wp_seq_k fun K7 hK7 => ?_
  refine rg mixed y4 zz4 ?_
  refine .i (sp_move (hbs rfl e2)) ?_
  refine .i (sp_nilP (hlc rfl)) ?_
  refine .i (lo1 (hlc rfl) own_bL trivial agg3 sz3 rfl) ?_
  refine .i (sp_lss (hlc rfl) Has.cst) ?_
  refine .i (sp_move (hlc rfl)) ?_
  refine .e (t := 18) (v := (.agg #[(.int .u8 (x.k)), (.int .i64 (x.n)), (.string (x.t)), (.slice cn0a (x.ns.length) cn0c), (.slice ci0a (x.xs.length) ci0c)])) rfl (hlc rfl) (fun hg => loA (hbs rfl e3) own_b3_2 trivial agg33 sz33 rfl rfl) ?_
  refine .e (t := 18) (v := (.bool (properB (x)))) rfl (hlc rfl) (fun hg => sp_call1 (φ1 := IsD (SA w S [b3_2, bL]) (V.d (x))) ent151 (((hlc rfl).undE hg).dat (rdV_in (x := x) ht0 D_cn0 D_ci0 : Rd W5 (SA w S [b3_2, bL]) (V.d (x)) _) sub_all) (fun g u1 W hk hgk h1 => proper_ok (x) W _ _ h1)) ?_
  refine .e (t := 18) rfl (hlc rfl) (fun hg => sp_not ((hlc rfl).undE hg)) ?_
  refine .i (sp_or (hlc rfl) ((hlc rfl).weak fun hq => hq)) ?_
  refine .done ⟨by kernel_rfl, fun a8 g W8 y8 zz8 hk hg hV hR hP => ?_⟩
  obtain ⟨e22, -, -, -, -, -, -, -, -, -⟩ := hV
  replace e1 := (hR 1 rfl).trans e1
  replace e2 := (hR 2 rfl).trans e2
  replace e3 := (hR 3 rfl).trans e3
  replace D_cn0 := D_cn0.ext hk
  replace D_ci0 := D_ci0.ext hk
  replace e22 := e22.q
  replace own_bL := own_bL.ext hk
  replace own_b3_2 := own_b3_2.ext hk
  replace kw := kw.x hk
  clear hR hk hg hP
  refine tail_nil (hK7 _ _ ?_)
  refine wp_cond_split e22 (fun hc => ?_) (fun hc => ?_)
  ·
   rw [if_pos (by rcases (Bool.or_eq_true _ _).mp hc with h | h; exact .inl (of_decide_eq_true h); exact .inr (by simpa using h))] at hme
   have hfin := hme
   refine wp_seq_k fun K9 hK9 => ?_
   refine rg mixed y8 zz8 ?_
   refine .i (sp_assign Has.cst) ?_
   refine .done ⟨by kernel_rfl, fun a10 g W10 y10 zz10 hk hg hV hR hP => ?_⟩
   obtain ⟨e6, -⟩ := hV
   replace D_cn0 := D_cn0.ext hk
   replace D_ci0 := D_ci0.ext hk
   have e6 : sl a10 6 = (.bool (false)) := e6
   replace own_bL := own_bL.ext hk
   replace own_b3_2 := own_b3_2.ext hk
   replace kw := kw.x hk
   clear hR hk hg hP
   refine tail_nil (hK9 _ _ ?_)
   refine wp_ret ?_
   refine (show bodyPost Try.prog Try.f134 _ .ret _ _ from ret1 rfl zz10 e6 ⟨_, rfl, kw, ?_⟩)
   rw [hfin]
   exact ⟨rfl, own_bL⟩
  ·
   have hd := of_decide_eq_false (Bool.or_eq_false_iff.1 hc).1
   have hpp : properB x = true := by simpa using (Bool.or_eq_false_iff.1 hc).2
   rw [if_neg (by rintro (h | h); exact hd h; rw [hpp] at h; cases h)] at hme
   refine wp_skip (hK6 _ _ ?_)
   refine wp_seq_k fun K11 hK11 => ?_
   refine wp_seq_k fun K12 hK12 => ?_
   refine rg mixed y8 zz8 ?_
   refine .i (fo 0 (hbs rfl e3) Try.underlying33 rfl sz5 rfl) ?_
   refine .i (lo1 (hlc rfl) own_b3_2 trivial agg5 sz5 rfl) ?_
   refine .i (sp_neq (hlc rfl) Has.cst) ?_
   refine .i (sp_move (hlc rfl)) ?_
   refine .e (t := 26) rfl (hlc rfl) (fun hg => fo 0 (hbs rfl e3) Try.underlying33 rfl sz5 rfl) ?_
   refine .e (t := 26) rfl (hlc rfl) (fun hg => lo1 ((hlc rfl).undE hg) own_b3_2 trivial agg5 sz5 rfl) ?_
   refine .e (t := 26) rfl (hlc rfl) (fun hg => sp_neq ((hlc rfl).undE hg) Has.cst) ?_
   refine .i (sp_and (hlc rfl) ((hlc rfl).weak fun hq => hq)) ?_
   refine .done ⟨by kernel_rfl, fun a13 g W13 y13 zz13 hk hg hV hR hP => ?_⟩
   obtain ⟨e30, -, -, -, -, -, -, -, -⟩ := hV
   replace e1 := (hR 1 rfl).trans e1
   replace e2 := (hR 2 rfl).trans e2
   replace e3 := (hR 3 rfl).trans e3
   replace D_cn0 := D_cn0.ext hk
   replace D_ci0 := D_ci0.ext hk
   replace e30 := e30.q
   replace own_bL := own_bL.ext hk
   replace own_b3_2 := own_b3_2.ext hk
   replace kw := kw.x hk
   clear hR hk hg hP
   refine tail_nil (hK12 _ _ ?_)
   refine wp_cond_split e30 (fun hc => ?_) (fun hc => ?_)
   ·
    rw [if_pos (by simp at hc; omega)] at hme
    have hfin := hme
    refine wp_seq_k fun K14 hK14 => ?_
    refine rg mixed y13 zz13 ?_
    refine .i (sp_assign Has.cst) ?_
    refine .done ⟨by kernel_rfl, fun a15 g W15 y15 zz15 hk hg hV hR hP => ?_⟩
    obtain ⟨e6, -⟩ := hV
    replace D_cn0 := D_cn0.ext hk
    replace D_ci0 := D_ci0.ext hk
    have e6 : sl a15 6 = (.bool (true)) := e6
    replace own_bL := own_bL.ext hk
    replace own_b3_2 := own_b3_2.ext hk
    replace kw := kw.x hk
    clear hR hk hg hP
    refine tail_nil (hK14 _ _ ?_)
    refine wp_ret ?_
    refine (show bodyPost Try.prog Try.f134 _ .ret _ _ from ret1 rfl zz15 e6 ⟨_, rfl, kw, ?_⟩)
    rw [hfin]
    exact ⟨rfl, own_bL⟩
   ·
    rw [if_neg (by simp at hc; omega)] at hme
    refine wp_skip (hK11 _ _ ?_)
    refine wp_seq_k fun K16 hK16 => ?_
    refine wp_seq_k fun K17 hK17 => ?_
    refine rg mixed y13 zz13 ?_
    refine .i (sp_move (hbs rfl e1)) ?_
    refine .i (sp_eql (hlc rfl) Has.cst) ?_
    refine .done ⟨by kernel_rfl, fun a18 g W18 y18 zz18 hk hg hV hR hP => ?_⟩
    obtain ⟨e32, -, -⟩ := hV
    replace e1 := (hR 1 rfl).trans e1
    replace e2 := (hR 2 rfl).trans e2
    replace e3 := (hR 3 rfl).trans e3
    replace D_cn0 := D_cn0.ext hk
    replace D_ci0 := D_ci0.ext hk
    replace e32 := e32.q
    replace own_bL := own_bL.ext hk
    replace own_b3_2 := own_b3_2.ext hk
    replace kw := kw.x hk
    clear hR hk hg hP
    refine tail_nil (hK17 _ _ ?_)
    refine wp_cond_split e32 (fun hc => ?_) (fun hc => ?_)
    ·
     rw [if_pos (by simp at hc; omega)] at hme
     have hfin := hme
     refine wp_seq_k fun K19 hK19 => ?_
     refine rg mixed y18 zz18 ?_
     refine .i (sp_assign Has.cst) ?_
     refine .done ⟨by kernel_rfl, fun a20 g W20 y20 zz20 hk hg hV hR hP => ?_⟩
     obtain ⟨e6, -⟩ := hV
     replace D_cn0 := D_cn0.ext hk
     replace D_ci0 := D_ci0.ext hk
     have e6 : sl a20 6 = (.bool (false)) := e6
     replace own_bL := own_bL.ext hk
     replace own_b3_2 := own_b3_2.ext hk
     replace kw := kw.x hk
     clear hR hk hg hP
     refine tail_nil (hK19 _ _ ?_)
     refine wp_ret ?_
     refine (show bodyPost Try.prog Try.f134 _ .ret _ _ from ret1 rfl zz20 e6 ⟨_, rfl, kw, ?_⟩)
     rw [hfin]
     exact ⟨rfl, own_bL⟩
    ·
     have hnz : ¬ nested = 0 := by simp at hc; omega
     rw [if_neg hnz] at hme
     refine wp_skip (hK16 _ _ ?_)
     refine wp_seq_k fun K21 hK21 => ?_
     refine wp_seq_k fun K22 hK22 => ?_
     refine rg mixed y18 zz18 ?_
     refine .i (fo 4 (hbs rfl e3) Try.underlying33 rfl sz31 rfl) ?_
     refine .i (lo1 (hlc rfl) own_b3_2 trivial agg31 sz31 rfl) ?_
     refine .i (sp_lenVs Try.underlying31 ((hlc rfl).dat D_ci0 sub_all)) ?_
     refine .i (sp_move Has.cst) ?_
     refine .done ⟨by kernel_rfl, fun a23 g W23 y23 zz23 hk hg hV hR hP => ?_⟩
     obtain ⟨e36, e35, e34, -, -⟩ := hV
     replace e1 := (hR 1 rfl).trans e1
     replace e2 := (hR 2 rfl).trans e2
     replace D_cn0 := D_cn0.ext hk
     replace D_ci0 := D_ci0.ext hk
     have e34 : sl a23 34 = (.slice ci0a (x.xs.length) ci0c) := e34
     have e35 : sl a23 35 = (.int .i64 (x.xs.length)) := e35
     have e36 : sl a23 36 = (.int .i64 (0)) := e36
     replace own_bL := own_bL.ext hk
     replace own_b3_2 := own_b3_2.ext hk
     replace kw := kw.x hk
     clear hR hk hg hP
     refine tail_nil (hK22 _ _ ?_)
     refine wp_block ?_
     replace D_ci0 := sa_less (M' := [bL]) D_ci0 (ls_skip (ls_keep ls_nil))
     refine wp_for (x.xs.length) (fun k a W => ∃ (l2 : Int), a.tmps.size = 47 ∧ a.defers = [] ∧ Keeps (fun k => k ≠ bL) w W ∧ sl a 1 = (.int .i64 ((nested : Nat))) ∧ sl a 2 = (.pointer (some ⟨bL, 0, none⟩)) ∧ sl a 34 = (.slice ci0a (x.xs.length) ci0c) ∧ sl a 35 = (.int .i64 (x.xs.length)) ∧ sl a 36 = (.int .i64 ((k : Nat))) ∧ Own W bL [(.int .i64 (l2))] 3 ∧ Rd W (SA w S [bL]) (valsD (x.xs)) (.slice ci0a (x.xs.length) ci0c) ∧ (mayL x.xs (nested - 1) (left - 1) = mayL (x.xs.drop k) (nested - 1) l2) ∧ (0 ≤ l2) ∧ (l2 ≤ left)) ⟨(left - 1), y23, zz23, kw, e1, e2, e34, e35, (e36.trans (congrArg (Value.int .i64) (rfl))), own_bL, D_ci0, rfl, by omega, by omega⟩ ?_
     clear kw e1 e2 e34 e35 e36 own_bL D_ci0
     rintro k a24 W24 hkk ⟨l2, y24, zz24, kw, e1, e2, e34, e35, e36, own_bL, D_ci0, hin, hl2, hl3⟩
     refine wp_seq_k fun K25 hK25 => ?_
     refine rg mixed y24 zz24 ?_
     refine .i (sp_lss (hbs rfl e36) (hbs rfl e35)) ?_
     refine .done ⟨by kernel_rfl, fun a26 g W26 y26 zz26 hk hg hV hR hP => ?_⟩
     obtain ⟨e37, -⟩ := hV
     replace e1 := (hR 1 rfl).trans e1
     replace e2 := (hR 2 rfl).trans e2
     replace e34 := (hR 34 rfl).trans e34
     replace e35 := (hR 35 rfl).trans e35
     replace e36 := (hR 36 rfl).trans e36
     replace D_ci0 := D_ci0.ext hk
     replace e37 := e37.q
     replace own_bL := own_bL.ext hk
     replace kw := kw.x hk
     clear hR hk hg hP
     refine tail_nil (hK25 _ _ ?_)
     refine wp_seq_k fun K27 hK27 => ?_
     refine wp_cond_split e37 (fun hc => ?_) (fun hc => ?_)
     ·
      have hlt : k < x.xs.length := by simpa using hc
      have hdr := List.drop_eq_getElem_cons hlt
      rw [hdr, mayL] at hin
      have hce := cnt_elem hlt
      have hvl := mayV_le x.xs[k] (nested - 1) l2 hl2
      refine wp_skip (hK27 _ _ ?_)
      refine wp_seq_k fun K28 hK28 => ?_
      refine wp_block ?_
      refine wp_seq_k fun K29 hK29 => ?_
      refine rg mixed y26 zz26 ?_
      refine .rf (sp_indexV (i := k) ((hbs rfl e34).dat D_ci0 sub_all) (hbs rfl e36) Try.underlying31 sz33 rfl hlt) ?_
      refine .da (sp_loadV (hlc rfl) agg33 sz33) ?_
      refine .alloc z33 ?_
      refine .done ⟨by kernel_rfl, fun a30 g W30 y30 zz30 hk hg hV hR hP => ?_⟩
      obtain ⟨⟨b8_30, e8, hb8, own_b8_30⟩, e39, -, -⟩ := hV
      have lo_b8_30 : w.heap.size ≤ b8_30 := Nat.le_trans kw.size (hg.lo _ _ hb8)
      have ne_bL_b8_30 : bL ≠ b8_30 := Nat.ne_of_lt (Nat.lt_of_lt_of_le own_bL.lt (hg.lo _ _ hb8))
      have own_b8_30 : Own W30 b8_30 [(.int .u8 (0)), (.int .i64 (0)), (.string (⟨#[]⟩)), (.slice none 0 0), (.slice none 0 0)] 33 := own_b8_30
      replace e1 := (hR 1 rfl).trans e1
      replace e2 := (hR 2 rfl).trans e2
      replace e34 := (hR 34 rfl).trans e34
      replace e35 := (hR 35 rfl).trans e35
      replace e36 := (hR 36 rfl).trans e36
      replace D_ci0 := sa_more D_ci0 hk [b8_30] (in_cons (hg.lo _ _ hb8) in_nil)
      obtain ⟨v39_30, ev⟩ : ∃ v, sl a30 39 = v := ⟨_, rfl⟩
      rw [ev] at e39
      have D_v39_30 : Rd W30 (SA w S [b8_30, bL]) (V.d (x.xs[k]'hlt)) v39_30 := sa_end e39 hk [b8_30] (in_cons ⟨_, hb8⟩ in_nil)
      replace e39 := ev; clear ev
      obtain ⟨cn39_30a, cn39_30c, ci39_30a, ci39_30c, ev, ht_v39_30, D_cn39_30, D_ci39_30⟩ := rdV_out D_v39_30
      subst ev; clear D_v39_30
      replace own_bL := own_bL.ext hk
      replace kw := kw.x hk
      clear hR hk hg hP hb8
      refine tail_store (b := b8_30) (o := 0) (v := (.agg #[(.int .u8 ((x.xs[k]'hlt).k)), (.int .i64 ((x.xs[k]'hlt).n)), (.string ((x.xs[k]'hlt).t)), (.slice cn39_30a (((x.xs[k]'hlt).ns).length) cn39_30c), (.slice ci39_30a (((x.xs[k]'hlt).xs).length) ci39_30c)])) e8 e39 sz33 rfl own_b8_30 (lbr rfl) (all_cons rfl (all_cons rfl (all_cons rfl (all_cons rfl (all_cons rfl all_nil))))) (fun W31 hs own_b8_30 => ?_)
      have own_b8_30 : Own W31 b8_30 [(.int .u8 ((x.xs[k]'hlt).k)), (.int .i64 ((x.xs[k]'hlt).n)), (.string ((x.xs[k]'hlt).t)), (.slice cn39_30a (((x.xs[k]'hlt).ns).length) cn39_30c), (.slice ci39_30a (((x.xs[k]'hlt).xs).length) ci39_30c)] 33 := own_b8_30
      replace own_bL := own_store own_bL hs ne_bL_b8_30
      replace D_ci0 := sa_store D_ci0 hs (by simp)
      replace D_cn39_30 := sa_store D_cn39_30 hs (by simp)
      replace D_ci39_30 := sa_store D_ci39_30 hs (by simp)
      replace kw := keeps_store kw hs lo_b8_30
      clear hs
      refine tail_nil (hK29 _ _ ?_)
      refine wp_seq_k fun K32 hK32 => ?_
      refine wp_reg (fun k => k ≠ bL) (Ψ := fun W => Own W bL [(.int .i64 (l2))] 3) mixed y30 zz30 (fun W W' k h => h.ext k) own_bL ?_
      refine .i (v := (.agg #[(.int .u8 ((x.xs[k]'hlt).k)), (.int .i64 ((x.xs[k]'hlt).n)), (.string ((x.xs[k]'hlt).t)), (.slice cn39_30a (((x.xs[k]'hlt).ns).length) cn39_30c), (.slice ci39_30a (((x.xs[k]'hlt).xs).length) ci39_30c)])) (loA (hbs rfl e8) own_b8_30 ne_bL_b8_30.symm agg33 sz33 rfl rfl) ?_
      refine .i (sp_move (hbs rfl e1)) ?_
      refine .i (sp_sub (hlc rfl) Has.cst (i64_in (by omega))) ?_
      refine .i (sp_move (hbs rfl e2)) ?_
      refine .callW3 (φ1 := IsD (SA w S [b8_30, bL]) (V.d ((x.xs[k]'hlt)))) (φ2 := Is (.int .i64 (((nested : Nat) : Int) - (1 : Int)))) (φ3 := Is (.pointer (some ⟨bL, 0, none⟩))) (φ := Is (.bool ((mayV ((x.xs[k]'hlt)) (nested - 1) (l2)).1))) (Ψ' := fun W => Own W bL [(.int .i64 ((mayV ((x.xs[k]'hlt)) (nested - 1) (l2)).2))] 3) ent134 ((hlc rfl).dat (rdV_in (x := (x.xs[k]'hlt)) ht_v39_30 D_cn39_30 D_ci39_30 : Rd W31 (SA w S [b8_30, bL]) (V.d ((x.xs[k]'hlt))) _) (sub_ne (by simp))) (hlc rfl) (hlc rfl) (st_is _) (fun W W' k h => h.ext k) (fun g u1 u2 u3 W hk hg h1 h2 h3 hP => by have h2 : u2 = _ := h2; subst u2; have h3 : u3 = _ := h3; subst u3; rw [show ((nested : Nat) : Int) - (1 : Int) = ((nested - 1 : Nat) : Int) by omega]; exact ih ((x.xs[k]'hlt)) (by omega) (by omega) (nested - 1) (l2) (by omega) (by omega) (by omega) W _ _ bL (fun o h => h.1.2.2 (by simp)) hP h1) ?_
      refine .i (sp_not (hlc rfl)) ?_
      refine .done ⟨by kernel_rfl, fun a33 g W33 y33 zz33 hk hg hV hR hP => ?_⟩
      obtain ⟨e45, -, -, -, -, -, -⟩ := hV
      replace e1 := (hR 1 rfl).trans e1
      replace e2 := (hR 2 rfl).trans e2
      replace e34 := (hR 34 rfl).trans e34
      replace e35 := (hR 35 rfl).trans e35
      replace e36 := (hR 36 rfl).trans e36
      replace D_ci0 := sa_store D_ci0 hk (by simp)
      replace D_cn39_30 := sa_store D_cn39_30 hk (by simp)
      replace D_ci39_30 := sa_store D_ci39_30 hk (by simp)
      replace e45 := e45.q
      replace own_b8_30 := own_store own_b8_30 hk ne_bL_b8_30.symm
      replace own_bL : Own W33 bL [(.int .i64 ((mayV ((x.xs[k]'hlt)) (nested - 1) (l2)).2))] 3 := hP
      replace kw := kw.trans hk
      clear hR hk hg hP
      refine tail_nil (hK32 _ _ ?_)
      refine wp_cond_split e45 (fun hc => ?_) (fun hc => ?_)
      ·
       have hok : (mayV x.xs[k] (nested - 1) l2).1 = false := by simpa using hc
       have hfin : mayV x nested left = (false, (mayV x.xs[k] (nested - 1) l2).2) := by rw [hme, hin, if_pos hok]
       refine wp_seq_k fun K34 hK34 => ?_
       refine rg mixed y33 zz33 ?_
       refine .i (sp_assign Has.cst) ?_
       refine .done ⟨by kernel_rfl, fun a35 g W35 y35 zz35 hk hg hV hR hP => ?_⟩
       obtain ⟨e6, -⟩ := hV
       replace D_ci0 := D_ci0.ext hk
       have e6 : sl a35 6 = (.bool (false)) := e6
       replace own_bL := own_bL.ext hk
       replace own_b8_30 := own_b8_30.ext hk
       replace kw := kw.x hk
       clear hR hk hg hP
       refine tail_nil (hK34 _ _ ?_)
       refine wp_ret ?_
       refine (show bodyPost Try.prog Try.f134 _ .ret _ _ from ret1 rfl zz35 e6 ⟨_, rfl, kw, ?_⟩)
       rw [hfin]
       exact ⟨rfl, own_bL⟩
      ·
       have hok : (mayV x.xs[k] (nested - 1) l2).1 = true := by simpa using hc
       rw [if_neg (by simp [hok])] at hin
       have hvp := hvl.2.2 hok
       refine wp_skip (hK28 _ _ ?_)
       refine rg mixed y33 zz33 ?_
       refine .i (sp_add (hbs rfl e36) Has.cst (i64_in (by omega))) ?_
       refine .i (sp_move (hlc rfl)) ?_
       refine .done ⟨by kernel_rfl, fun a36 g W36 y36 zz36 hk hg hV hR hP => ?_⟩
       obtain ⟨e36, -, -⟩ := hV
       replace e1 := (hR 1 rfl).trans e1
       replace e2 := (hR 2 rfl).trans e2
       replace e34 := (hR 34 rfl).trans e34
       replace e35 := (hR 35 rfl).trans e35
       replace D_ci0 := D_ci0.ext hk
       replace e36 := e36.q
       replace own_bL := own_bL.ext hk
       replace own_b8_30 := own_b8_30.ext hk
       replace kw := kw.x hk
       clear hR hk hg hP
       exact tail_nil ⟨hlt, _, y36, zz36, kw, e1, e2, e34, e35, (e36.trans (congrArg (Value.int .i64) (by simp))), own_bL, (sa_less D_ci0 (ls_skip (ls_keep ls_nil))), hin, hvp, by omega⟩
     ·
      have hge0 : ¬ k < x.xs.length := by simpa using hc
      have hge : k = x.xs.length := by omega
      have hfin : mayV x nested left = (true, l2) := by rw [hme, hin, hge, List.drop_length]; rfl
      refine wp_exit (hK21 _ _ ?_)
      refine wp_seq_k fun K37 hK37 => ?_
      refine rg mixed y26 zz26 ?_
      refine .i (sp_assign Has.cst) ?_
      refine .done ⟨by kernel_rfl, fun a38 g W38 y38 zz38 hk hg hV hR hP => ?_⟩
      obtain ⟨e6, -⟩ := hV
      replace D_ci0 := D_ci0.ext hk
      have e6 : sl a38 6 = (.bool (true)) := e6
      replace own_bL := own_bL.ext hk
      replace kw := kw.x hk
      clear hR hk hg hP
      refine tail_nil (hK37 _ _ ?_)
      refine wp_ret ?_
      refine (show bodyPost Try.prog Try.f134 _ .ret _ _ from ret1 rfl zz38 e6 ⟨_, rfl, kw, ?_⟩)
      rw [hfin]
      exact ⟨rfl, own_bL⟩
set_option maxRecDepth 100000 in
theorem May_ok (x : V) (hx : x.cnt ≤ 1073741824) (w : World) (S : BSet) (v : Value) (hv : Rd w S x.d v) : Calls Try.prog 76 #[v] w (Ret w fun u _ => u = .bool (mayB x)) := by
  obtain ⟨cn0a, cn0c, ci0a, ci0c, ev, ht0, D_cn0, D_ci0⟩ := rdV_out (rd_arg hv)
  subst ev
  refine enter Try.func76 rfl Try.ntmps76 (lbr rfl) fun a0 y0 zz0 harg => ?_
  have e0 : sl a0 0 = (.agg #[(.int .u8 (x.k)), (.int .i64 (x.n)), (.string (x.t)), (.slice cn0a (x.ns.length) cn0c), (.slice ci0a (x.xs.length) ci0c)]) := harg 0 (lbr rfl)
  have kw := Keeps.refl All w
  clear harg
  refine wp_seq_k fun K1 hK1 => ?_
  refine rg mixed y0 zz0 ?_
  refine .boxOp (v := (.agg #[(.int .u8 (x.k)), (.int .i64 (x.n)), (.string (x.t)), (.slice cn0a (x.ns.length) cn0c), (.slice ci0a (x.xs.length) ci0c)])) (hbs rfl e0) ?_
  refine .i (sp_assign Has.cst) ?_
  refine .done ⟨by kernel_rfl, fun a2 g W2 y2 zz2 hk hg hV hR hP => ?_⟩
  obtain ⟨-, ⟨b1_2, e1, hb1, own_b1_2⟩, -⟩ := hV
  have lo_b1_2 : w.heap.size ≤ b1_2 := Nat.le_trans kw.size (hg.lo _ _ hb1)
  have own_b1_2 : Own W2 b1_2 [(.int .u8 (x.k)), (.int .i64 (x.n)), (.string (x.t)), (.slice cn0a (x.ns.length) cn0c), (.slice ci0a (x.xs.length) ci0c)] 33 := own_b1_2
  replace D_cn0 := sa_more D_cn0 hk [b1_2] (in_cons (hg.lo _ _ hb1) in_nil)
  replace D_ci0 := sa_more D_ci0 hk [b1_2] (in_cons (hg.lo _ _ hb1) in_nil)
  replace kw := kw.x hk
  clear hR hk hg hP hb1
  refine tail_nil (hK1 _ _ ?_)
  refine wp_seq_k fun K3 hK3 => ?_
  refine rg mixed y2 zz2 ?_
  refine .alloc z3 ?_
  refine .done ⟨by kernel_rfl, fun a4 g W4 y4 zz4 hk hg hV hR hP => ?_⟩
  obtain ⟨⟨b3_4, e3, hb3, own_b3_4⟩, -⟩ := hV
  have lo_b3_4 : w.heap.size ≤ b3_4 := Nat.le_trans kw.size (hg.lo _ _ hb3)
  have ne_b1_2_b3_4 : b1_2 ≠ b3_4 := Nat.ne_of_lt (Nat.lt_of_lt_of_le own_b1_2.lt (hg.lo _ _ hb3))
  have own_b3_4 : Own W4 b3_4 [(.int .i64 (0))] 3 := own_b3_4
  replace e1 := (hR 1 rfl).trans e1
  replace D_cn0 := sa_more D_cn0 hk [b3_4] (in_cons (hg.lo _ _ hb3) in_nil)
  replace D_ci0 := sa_more D_ci0 hk [b3_4] (in_cons (hg.lo _ _ hb3) in_nil)
  replace own_b1_2 := own_b1_2.ext hk
  replace kw := kw.x hk
  clear hR hk hg hP hb3
  refine tail_store (b := b3_4) (o := 0) (v := (.int .i64 (8192))) e3 rfl sz3 rfl own_b3_4 (lbr rfl) (all_cons rfl all_nil) (fun W5 hs own_b3_4 => ?_)
  have own_b3_4 : Own W5 b3_4 [(.int .i64 (8192))] 3 := own_b3_4
  replace own_b1_2 := own_store own_b1_2 hs ne_b1_2_b3_4
  replace D_cn0 := sa_store D_cn0 hs (by simp)
  replace D_ci0 := sa_store D_ci0 hs (by simp)
  replace kw := keeps_store kw hs lo_b3_4
  clear hs
  refine tail_nil (hK3 _ _ ?_)
  refine wp_seq_k fun K6 hK6 => ?_
  refine wp_reg (fun k => k ≠ b3_4) (Ψ := fun W => Own W b3_4 [(.int .i64 (8192))] 3) mixed y4 zz4 (fun W W' k h => h.ext k) own_b3_4 ?_
  refine .i (v := (.agg #[(.int .u8 (x.k)), (.int .i64 (x.n)), (.string (x.t)), (.slice cn0a (x.ns.length) cn0c), (.slice ci0a (x.xs.length) ci0c)])) (loA (hbs rfl e1) own_b1_2 ne_b1_2_b3_4 agg33 sz33 rfl rfl) ?_
  refine .callW3 (φ1 := IsD (SA w S [b3_4, b1_2]) (V.d (x))) (φ2 := Is (.int .i64 (12))) (φ3 := Is (.pointer (some ⟨b3_4, 0, none⟩))) (φ := Is (.bool ((mayV (x) (12) (8192)).1))) (Ψ' := fun W => Own W b3_4 [(.int .i64 ((mayV (x) (12) (8192)).2))] 3) ent134 ((hlc rfl).dat (rdV_in (x := x) ht0 D_cn0 D_ci0 : Rd W5 (SA w S [b3_4, b1_2]) (V.d (x)) _) (sub_ne (by simp))) Has.cst (hbs rfl e3) (st_is _) (fun W W' k h => h.ext k) (fun g u1 u2 u3 W hk hg h1 h2 h3 hP => by have h2 : u2 = _ := h2; subst u2; have h3 : u3 = _ := h3; subst u3; exact may_all _ (x) (Nat.le_refl _) (by omega) (12) (8192) (by omega) (by omega) (by omega) W _ _ b3_4 (fun o h => h.1.2.2 (by simp)) hP h1) ?_
  refine .i (sp_assign (hlc rfl)) ?_
  refine .done ⟨by kernel_rfl, fun a7 g W7 y7 zz7 hk hg hV hR hP => ?_⟩
  obtain ⟨e2, -, -, -⟩ := hV
  replace D_cn0 := sa_store D_cn0 hk (by simp)
  replace D_ci0 := sa_store D_ci0 hk (by simp)
  have e2 : sl a7 2 = (.bool ((mayV (x) (12) (8192)).1)) := e2
  replace own_b1_2 := own_store own_b1_2 hk ne_b1_2_b3_4
  replace own_b3_4 : Own W7 b3_4 [(.int .i64 ((mayV (x) (12) (8192)).2))] 3 := hP
  replace kw := keeps_store kw hk lo_b3_4
  clear hR hk hg hP
  refine tail_nil (hK6 _ _ ?_)
  refine wp_ret ?_
  refine (show bodyPost Try.prog Try.f76 _ .ret _ _ from ret1 rfl zz7 e2 ⟨_, rfl, kw, ?_⟩)
  exact rfl
end Go.Proofs.Ytnobijngkpflcaa
namespace Go.Proofs.Ytnobijngkpflcaa
open Go.Eng
set_option maxRecDepth 100000 in
theorem clone_ok (ns : List ByteArray) (hn : ns.length ≤ 1073741824) (w : World) (S : BSet) (v : Value) (hv : Rd w S (strsD ns) v) : Calls Try.prog 136 #[v] w (Ret w fun u W => Rd W (Fr w) (strsD ns) u) := by
  obtain ⟨va, vc, ev, D_v⟩ := rdS_out (rd_arg hv)
  subst ev
  refine enter Try.func136 rfl Try.ntmps136 (lbr rfl) fun a0 y0 zz0 harg => ?_
  have e0 : sl a0 0 = (.slice va (ns.length) vc) := harg 0 (lbr rfl)
  have kw := Keeps.refl All w
  clear harg
  refine wp_seq_k fun K1 hK1 => ?_
  refine rg mixed y0 zz0 ?_
  refine .i (sp_assign Has.cst) ?_
  refine .done ⟨by kernel_rfl, fun a2 g W2 y2 zz2 hk hg hV hR hP => ?_⟩
  obtain ⟨-, -⟩ := hV
  replace e0 := (hR 0 rfl).trans e0
  replace D_v := D_v.ext hk
  replace kw := kw.x hk
  clear hR hk hg hP
  refine tail_nil (hK1 _ _ ?_)
  refine wp_seq_k fun K3 hK3 => ?_
  refine wp_seq_k fun K4 hK4 => ?_
  refine rg mixed y2 zz2 ?_
  refine .i (sp_move (hbs rfl e0)) ?_
  refine .i (v := (.bool (va.isNone))) (sp_slNil Try.underlying23 (hlc rfl) Has.cst) ?_
  refine .done ⟨by kernel_rfl, fun a5 g W5 y5 zz5 hk hg hV hR hP => ?_⟩
  obtain ⟨e4, -, -⟩ := hV
  replace e0 := (hR 0 rfl).trans e0
  replace D_v := D_v.ext hk
  have e4 : sl a5 4 = (.bool (va.isNone)) := e4
  replace kw := kw.x hk
  clear hR hk hg hP
  refine tail_nil (hK4 _ _ ?_)
  refine wp_cond_split e4 (fun hc => ?_) (fun hc => ?_)
  ·
   have hns : ns = [] := by simpa using rd_none (ds := ns.map D.str) D_v hc
   subst hns
   refine wp_seq_k fun K6 hK6 => ?_
   refine rg mixed y5 zz5 ?_
   refine .i (sp_assign Has.cst) ?_
   refine .done ⟨by kernel_rfl, fun a7 g W7 y7 zz7 hk hg hV hR hP => ?_⟩
   obtain ⟨e2, -⟩ := hV
   replace D_v := D_v.ext hk
   have e2 : sl a7 2 = (.slice none 0 0) := e2
   replace kw := kw.x hk
   clear hR hk hg hP
   refine tail_nil (hK6 _ _ ?_)
   refine wp_ret ?_
   refine (show bodyPost Try.prog Try.f136 _ .ret _ _ from ret1 rfl zz7 e2 ⟨_, rfl, kw, ?_⟩)
   exact rd_nil _
  ·
   refine wp_skip (hK3 _ _ ?_)
   refine wp_seq_k fun K8 hK8 => ?_
   refine rg mixed y5 zz5 ?_
   refine .op (φ := IsE 9) st_e (sp_bslE Try.underlying23 sz9) ?_
   refine .i (sp_move (hbs rfl e0)) ?_
   refine .da (X := SF w []) (e := strsD (ns)) (sp_appS Try.underlying23 inf9 (hlc rfl) ((hlc rfl).dat D_v sub_all) (by omega) (by omega) (fr_sf kw in_nil)) ?_
   refine .da (X := SF w []) (e := strsD (ns)) (sp_assign (hlc rfl)) ?_
   refine .done ⟨by kernel_rfl, fun a9 g W9 y9 zz9 hk hg hV hR hP => ?_⟩
   obtain ⟨e2, -, -, -, -⟩ := hV
   replace D_v := D_v.ext hk
   obtain ⟨v2_9, ev⟩ : ∃ v, sl a9 2 = v := ⟨_, rfl⟩
   rw [ev] at e2
   have D_v2_9 : Rd W9 (SF w []) (strsD (ns)) v2_9 := sf_end e2 hk [] in_nil
   replace e2 := ev; clear ev
   obtain ⟨v2_9a, v2_9c, ev, D2⟩ := rdS_out D_v2_9
   subst ev; replace D_v2_9 := D2; clear D2
   replace kw := kw.x hk
   clear hR hk hg hP
   refine tail_nil (hK8 _ _ ?_)
   refine wp_ret ?_
   refine (show bodyPost Try.prog Try.f136 _ .ret _ _ from ret1 rfl zz9 e2 ⟨_, rfl, kw, ?_⟩)
   exact sf_fr D_v2_9
set_option maxRecDepth 100000 in
theorem duplicate_all : ∀ (n : Nat) (x : V), x.wt ≤ n → n ≤ 1073741824 → ∀ (w : World) (S : BSet) (v : Value), Rd w S x.d v → Calls Try.prog 138 #[v] w (Ret w fun u W => Rd W (Fr w) x.d u) := by
  intro n
  induction n with
  | zero => intro x hx; have := wt_pos x; omega
  | succ n ih =>
  intro x hx hn w S v hv
  have hwx := wt_eq x
  have hwl := wts_len x.xs
  have hwn := wtN_len x.ns
  obtain ⟨cn0a, cn0c, ci0a, ci0c, ev, ht0, D_cn0, D_ci0⟩ := rdV_out (rd_arg hv)
  subst ev
  refine enter Try.func138 rfl Try.ntmps138 (lbr rfl) fun a0 y0 zz0 harg => ?_
  have e0 : sl a0 0 = (.agg #[(.int .u8 (x.k)), (.int .i64 (x.n)), (.string (x.t)), (.slice cn0a (x.ns.length) cn0c), (.slice ci0a (x.xs.length) ci0c)]) := harg 0 (lbr rfl)
  have kw := Keeps.refl All w
  clear harg
  refine wp_seq_k fun K1 hK1 => ?_
  refine rg mixed y0 zz0 ?_
  refine .boxOp (v := (.agg #[(.int .u8 (x.k)), (.int .i64 (x.n)), (.string (x.t)), (.slice cn0a (x.ns.length) cn0c), (.slice ci0a (x.xs.length) ci0c)])) (hbs rfl e0) ?_
  refine .alloc z33 ?_
  refine .done ⟨by kernel_rfl, fun a2 g W2 y2 zz2 hk hg hV hR hP => ?_⟩
  obtain ⟨⟨b2_2, e2, hb2, own_b2_2⟩, ⟨b1_2, e1, hb1, own_b1_2⟩, -⟩ := hV
  have lo_b2_2 : w.heap.size ≤ b2_2 := Nat.le_trans kw.size (hg.lo _ _ hb2)
  have own_b2_2 : Own W2 b2_2 [(.int .u8 (0)), (.int .i64 (0)), (.string (⟨#[]⟩)), (.slice none 0 0), (.slice none 0 0)] 33 := own_b2_2
  have lo_b1_2 : w.heap.size ≤ b1_2 := Nat.le_trans kw.size (hg.lo _ _ hb1)
  have own_b1_2 : Own W2 b1_2 [(.int .u8 (x.k)), (.int .i64 (x.n)), (.string (x.t)), (.slice cn0a (x.ns.length) cn0c), (.slice ci0a (x.xs.length) ci0c)] 33 := own_b1_2
  have ne_b2_2_b1_2 : b2_2 ≠ b1_2 := fun h => by have := hg.inj _ _ _ hb2 (h ▸ hb1); cases this
  replace D_cn0 := sa_more D_cn0 hk [b2_2, b1_2] (in_cons (hg.lo _ _ hb2) (in_cons (hg.lo _ _ hb1) in_nil))
  replace D_ci0 := sa_more D_ci0 hk [b2_2, b1_2] (in_cons (hg.lo _ _ hb2) (in_cons (hg.lo _ _ hb1) in_nil))
  replace kw := kw.x hk
  clear hR hk hg hP hb2 hb1
  refine tail_nil (hK1 _ _ ?_)
  refine wp_seq_k fun K3 hK3 => ?_
  refine rg mixed y2 zz2 ?_
  refine .i (fo 0 (hbs rfl e1) Try.underlying33 rfl sz5 rfl) ?_
  refine .i (lo1 (hlc rfl) own_b1_2 trivial agg5 sz5 rfl) ?_
  refine .i (fo 1 (hbs rfl e1) Try.underlying33 rfl sz2 rfl) ?_
  refine .i (lo1 (hlc rfl) own_b1_2 trivial agg2 sz2 rfl) ?_
  refine .i (fo 2 (hbs rfl e1) Try.underlying33 rfl sz9 rfl) ?_
  refine .i (lo1 (hlc rfl) own_b1_2 trivial agg9 sz9 rfl) ?_
  refine .i (fo 3 (hbs rfl e1) Try.underlying33 rfl sz23 rfl) ?_
  refine .i (lo1 (hlc rfl) own_b1_2 trivial agg23 sz23 rfl) ?_
  refine .da (X := Fr W2) (e := strsD (x.ns)) (sp_call1 (φ1 := IsD (SA w S [b2_2, b1_2]) (strsD (x.ns))) ent136 ((hlc rfl).dat D_cn0 sub_all) (fun g u1 W hk hgk h1 => (clone_ok (x.ns) (by omega) W _ _ h1).mono (ret_fr hk hgk))) ?_
  refine .op (φ := IsHole (fun v => .agg #[(.int .u8 (x.k)), (.int .i64 (x.n)), (.string (x.t)), v, (.slice none 0 0)]) (IsD (Fr W2) (strsD (x.ns)))) (st_hole (st_d sub_all)) (sp_build1 (vs := [(0, some (.int .u8 (x.k))), (1, some (.int .i64 (x.n))), (2, some (.string (x.t))), (3, none)]) (cells := fun v => #[(.int .u8 (x.k)), (.int .i64 (x.n)), (.string (x.t)), v, (.slice none 0 0)]) Try.underlying33 z33 (pl33 Try.underlying33) (hlc rfl) (fun _ => by simp [Op.operands]) sl_strs ⟨rfl, (hlc rfl), ⟨rfl, (hlc rfl), ⟨rfl, (hlc rfl), ⟨rfl, rfl, trivial⟩⟩⟩⟩ (fun _ _ _ => rfl)) ?_
  refine .alloc z33 ?_
  refine .done ⟨by kernel_rfl, fun a4 g W4 y4 zz4 hk hg hV hR hP => ?_⟩
  obtain ⟨⟨b3_4, e3, hb3, own_b3_4⟩, e15, -, -, -, -, -, -, -, -, -, -⟩ := hV
  have lo_b3_4 : w.heap.size ≤ b3_4 := Nat.le_trans kw.size (hg.lo _ _ hb3)
  have ne_b2_2_b3_4 : b2_2 ≠ b3_4 := Nat.ne_of_lt (Nat.lt_of_lt_of_le own_b2_2.lt (hg.lo _ _ hb3))
  have ne_b1_2_b3_4 : b1_2 ≠ b3_4 := Nat.ne_of_lt (Nat.lt_of_lt_of_le own_b1_2.lt (hg.lo _ _ hb3))
  have own_b3_4 : Own W4 b3_4 [(.int .u8 (0)), (.int .i64 (0)), (.string (⟨#[]⟩)), (.slice none 0 0), (.slice none 0 0)] 33 := own_b3_4
  replace e2 := (hR 2 rfl).trans e2
  replace e1 := (hR 1 rfl).trans e1
  replace D_cn0 := sa_more D_cn0 hk [b3_4] (in_cons (hg.lo _ _ hb3) in_nil)
  replace D_ci0 := sa_more D_ci0 hk [b3_4] (in_cons (hg.lo _ _ hb3) in_nil)
  obtain ⟨v15_4a, v15_4n, v15_4c, ev, D_v15_4⟩ := e15
  replace D_v15_4 : Rd W4 (SF w [b3_4, b2_2, b1_2]) (strsD (x.ns)) _ := fr_end (M := [b2_2, b1_2]) D_v15_4 kw [b3_4] (in_cons ⟨_, hb3⟩ in_nil) (in_cons own_b2_2.lt (in_cons own_b1_2.lt in_nil))
  obtain ⟨xa, xc, ev2, D2⟩ := rdS_out D_v15_4
  injection ev2 with h1 h2 h3; subst h1 h2 h3; clear D2
  have e15 : sl a4 15 = (.agg #[(.int .u8 (x.k)), (.int .i64 (x.n)), (.string (x.t)), (.slice v15_4a (x.ns.length) v15_4c), (.slice none 0 0)]) := ev; clear ev
  replace own_b2_2 := own_b2_2.ext hk
  replace own_b1_2 := own_b1_2.ext hk
  replace kw := kw.x hk
  clear hR hk hg hP hb3
  refine tail_store (b := b3_4) (o := 0) (v := (.agg #[(.int .u8 (x.k)), (.int .i64 (x.n)), (.string (x.t)), (.slice v15_4a (x.ns.length) v15_4c), (.slice none 0 0)])) e3 e15 sz33 rfl own_b3_4 (lbr rfl) (all_cons rfl (all_cons rfl (all_cons rfl (all_cons rfl (all_cons rfl all_nil))))) (fun W5 hs own_b3_4 => ?_)
  have own_b3_4 : Own W5 b3_4 [(.int .u8 (x.k)), (.int .i64 (x.n)), (.string (x.t)), (.slice v15_4a (x.ns.length) v15_4c), (.slice none 0 0)] 33 := own_b3_4
  replace own_b2_2 := own_store own_b2_2 hs ne_b2_2_b3_4
  replace own_b1_2 := own_store own_b1_2 hs ne_b1_2_b3_4
  replace D_cn0 := sa_store D_cn0 hs (by simp)
  replace D_ci0 := sa_store D_ci0 hs (by simp)
  replace D_v15_4 := sf_store D_v15_4 hs (by simp)
  replace kw := keeps_store kw hs lo_b3_4
  clear hs
  refine tail_nil (hK3 _ _ ?_)
  refine wp_seq_k fun K6 hK6 => ?_
  refine wp_seq_k fun K7 hK7 => ?_
  refine rg mixed y4 zz4 ?_
  refine .i (fo 4 (hbs rfl e1) Try.underlying33 rfl sz31 rfl) ?_
  refine .i (lo1 (hlc rfl) own_b1_2 trivial agg31 sz31 rfl) ?_
  refine .i (sp_lenVs Try.underlying31 ((hlc rfl).dat D_ci0 sub_all)) ?_
  refine .i (sp_move Has.cst) ?_
  refine .done ⟨by kernel_rfl, fun a8 g W8 y8 zz8 hk hg hV hR hP => ?_⟩
  obtain ⟨e19, e18, e17, -, -⟩ := hV
  replace e2 := (hR 2 rfl).trans e2
  replace e3 := (hR 3 rfl).trans e3
  replace D_cn0 := D_cn0.ext hk
  replace D_ci0 := D_ci0.ext hk
  replace D_v15_4 := D_v15_4.ext hk
  have e17 : sl a8 17 = (.slice ci0a (x.xs.length) ci0c) := e17
  have e18 : sl a8 18 = (.int .i64 (x.xs.length)) := e18
  have e19 : sl a8 19 = (.int .i64 (0)) := e19
  replace own_b2_2 := own_b2_2.ext hk
  replace own_b1_2 := own_b1_2.ext hk
  replace own_b3_4 := own_b3_4.ext hk
  replace kw := kw.x hk
  clear hR hk hg hP
  refine tail_nil (hK7 _ _ ?_)
  refine wp_block ?_
  replace D_ci0 := sa_less (M' := [b3_4, b2_2]) D_ci0 (ls_keep (ls_keep ls_nil))
  replace D_v15_4 := sf_less (M' := [b3_4, b2_2]) D_v15_4 (ls_keep (ls_keep ls_nil))
  have A_ar9 : Arr W8 w.heap.size 33 5 (SF w (blks none ++ (b3_4 :: (b2_2 :: [])))) (List.map V.d ([])) (.slice none 0 0) none := arr_nil _ _ _ _ _
  replace D_ci0 : Rd W8 (SA w S (blks none ++ (b3_4 :: (b2_2 :: [])))) (valsD (x.xs)) (.slice ci0a (x.xs.length) ci0c) := D_ci0
  replace D_v15_4 : Rd W8 (SF w (blks none ++ (b3_4 :: (b2_2 :: [])))) (strsD (x.ns)) (.slice v15_4a (x.ns.length) v15_4c) := D_v15_4
  refine wp_for (x.xs.length) (fun k a W => ∃ (va4_10 : Value), ∃ (hd4_10 : Option Nat), a.tmps.size = 32 ∧ a.defers = [] ∧ Keeps All w W ∧ sl a 2 = (.pointer (some ⟨b2_2, 0, none⟩)) ∧ sl a 3 = (.pointer (some ⟨b3_4, 0, none⟩)) ∧ sl a 17 = (.slice ci0a (x.xs.length) ci0c) ∧ sl a 18 = (.int .i64 (x.xs.length)) ∧ sl a 19 = (.int .i64 ((k : Nat))) ∧ Own W b2_2 [(.int .u8 (0)), (.int .i64 (0)), (.string (⟨#[]⟩)), (.slice none 0 0), (.slice none 0 0)] 33 ∧ Own W b3_4 [(.int .u8 (x.k)), (.int .i64 (x.n)), (.string (x.t)), (.slice v15_4a (x.ns.length) v15_4c), va4_10] 33 ∧ Rd W (SA w S (blks hd4_10 ++ (b3_4 :: (b2_2 :: [])))) (valsD (x.xs)) (.slice ci0a (x.xs.length) ci0c) ∧ Rd W (SF w (blks hd4_10 ++ (b3_4 :: (b2_2 :: [])))) (strsD (x.ns)) (.slice v15_4a (x.ns.length) v15_4c) ∧ Arr W w.heap.size 33 5 (SF w (blks hd4_10 ++ (b3_4 :: (b2_2 :: [])))) (List.map V.d (x.xs.take k)) va4_10 hd4_10 ∧ b2_2 ∉ blks hd4_10 ∧ b3_4 ∉ blks hd4_10) ⟨(.slice none 0 0), none, y8, zz8, kw, e2, e3, e17, e18, (e19.trans (congrArg (Value.int .i64) (rfl))), own_b2_2, own_b3_4, D_ci0, D_v15_4, A_ar9, nb_none, nb_none⟩ ?_
  clear kw e2 e3 e17 e18 e19 own_b2_2 own_b3_4 D_ci0 D_v15_4 A_ar9
  rintro k a10 W10 hkk ⟨va4_10, hd4_10, y10, zz10, kw, e2, e3, e17, e18, e19, own_b2_2, own_b3_4, D_ci0, D_v15_4, A4_10, nb_b2_2_ar9_10, nb_b3_4_ar9_10⟩
  refine wp_seq_k fun K11 hK11 => ?_
  refine rg mixed y10 zz10 ?_
  refine .i (sp_lss (hbs rfl e19) (hbs rfl e18)) ?_
  refine .done ⟨by kernel_rfl, fun a12 g W12 y12 zz12 hk hg hV hR hP => ?_⟩
  obtain ⟨e20, -⟩ := hV
  replace e2 := (hR 2 rfl).trans e2
  replace e3 := (hR 3 rfl).trans e3
  replace e17 := (hR 17 rfl).trans e17
  replace e18 := (hR 18 rfl).trans e18
  replace e19 := (hR 19 rfl).trans e19
  replace A4_10 := A4_10.ext hk
  replace D_ci0 := D_ci0.ext hk
  replace D_v15_4 := D_v15_4.ext hk
  replace e20 := e20.q
  replace own_b2_2 := own_b2_2.ext hk
  replace own_b3_4 := own_b3_4.ext hk
  replace kw := kw.x hk
  clear hR hk hg hP
  refine tail_nil (hK11 _ _ ?_)
  refine wp_seq_k fun K13 hK13 => ?_
  refine wp_cond_split e20 (fun hc => ?_) (fun hc => ?_)
  ·
   have hlt : k < x.xs.length := by simpa using hc
   have hwm := wts_mem hlt
   refine wp_skip (hK13 _ _ ?_)
   refine wp_seq_k fun K14 hK14 => ?_
   refine wp_block ?_
   refine wp_seq_k fun K15 hK15 => ?_
   refine rg mixed y12 zz12 ?_
   refine .rf (sp_indexV (i := k) ((hbs rfl e17).dat D_ci0 sub_all) (hbs rfl e19) Try.underlying31 sz33 rfl hlt) ?_
   refine .da (sp_loadV (hlc rfl) agg33 sz33) ?_
   refine .alloc z33 ?_
   refine .done ⟨by kernel_rfl, fun a16 g W16 y16 zz16 hk hg hV hR hP => ?_⟩
   obtain ⟨⟨b5_16, e5, hb5, own_b5_16⟩, e22, -, -⟩ := hV
   have lo_b5_16 : w.heap.size ≤ b5_16 := Nat.le_trans kw.size (hg.lo _ _ hb5)
   have ne_b2_2_b5_16 : b2_2 ≠ b5_16 := Nat.ne_of_lt (Nat.lt_of_lt_of_le own_b2_2.lt (hg.lo _ _ hb5))
   have ne_b3_4_b5_16 : b3_4 ≠ b5_16 := Nat.ne_of_lt (Nat.lt_of_lt_of_le own_b3_4.lt (hg.lo _ _ hb5))
   have own_b5_16 : Own W16 b5_16 [(.int .u8 (0)), (.int .i64 (0)), (.string (⟨#[]⟩)), (.slice none 0 0), (.slice none 0 0)] 33 := own_b5_16
   replace e2 := (hR 2 rfl).trans e2
   replace e3 := (hR 3 rfl).trans e3
   replace e17 := (hR 17 rfl).trans e17
   replace e18 := (hR 18 rfl).trans e18
   replace e19 := (hR 19 rfl).trans e19
   have nb_b5_16_ar9 : b5_16 ∉ blks hd4_10 := nb_lt A4_10.lt (hg.lo _ _ hb5)
   replace A4_10 : Arr W16 w.heap.size 33 5 (SF w (b5_16 :: (blks hd4_10 ++ (b3_4 :: (b2_2 :: []))))) (List.map V.d (x.xs.take k)) va4_10 hd4_10 := arrF_more A4_10 hk [b5_16] (in_cons (hg.lo _ _ hb5) in_nil)
   replace D_ci0 : Rd W16 (SA w S (b5_16 :: (blks hd4_10 ++ (b3_4 :: (b2_2 :: []))))) (valsD (x.xs)) (.slice ci0a (x.xs.length) ci0c) := sa_more D_ci0 hk [b5_16] (in_cons (hg.lo _ _ hb5) in_nil)
   replace D_v15_4 : Rd W16 (SF w (b5_16 :: (blks hd4_10 ++ (b3_4 :: (b2_2 :: []))))) (strsD (x.ns)) (.slice v15_4a (x.ns.length) v15_4c) := sf_more D_v15_4 hk [b5_16] (in_cons (hg.lo _ _ hb5) in_nil)
   obtain ⟨v22_16, ev⟩ : ∃ v, sl a16 22 = v := ⟨_, rfl⟩
   rw [ev] at e22
   have D_v22_16 : Rd W16 (SA w S (b5_16 :: (blks hd4_10 ++ (b3_4 :: (b2_2 :: []))))) (V.d (x.xs[k]'hlt)) v22_16 := sa_end e22 hk [b5_16] (in_cons ⟨_, hb5⟩ in_nil)
   replace e22 := ev; clear ev
   obtain ⟨cn22_16a, cn22_16c, ci22_16a, ci22_16c, ev, ht_v22_16, D_cn22_16, D_ci22_16⟩ := rdV_out D_v22_16
   subst ev; clear D_v22_16
   replace own_b2_2 := own_b2_2.ext hk
   replace own_b3_4 := own_b3_4.ext hk
   replace kw := kw.x hk
   clear hR hk hg hP hb5
   refine tail_store (b := b5_16) (o := 0) (v := (.agg #[(.int .u8 ((x.xs[k]'hlt).k)), (.int .i64 ((x.xs[k]'hlt).n)), (.string ((x.xs[k]'hlt).t)), (.slice cn22_16a (((x.xs[k]'hlt).ns).length) cn22_16c), (.slice ci22_16a (((x.xs[k]'hlt).xs).length) ci22_16c)])) e5 e22 sz33 rfl own_b5_16 (lbr rfl) (all_cons rfl (all_cons rfl (all_cons rfl (all_cons rfl (all_cons rfl all_nil))))) (fun W17 hs own_b5_16 => ?_)
   have own_b5_16 : Own W17 b5_16 [(.int .u8 ((x.xs[k]'hlt).k)), (.int .i64 ((x.xs[k]'hlt).n)), (.string ((x.xs[k]'hlt).t)), (.slice cn22_16a (((x.xs[k]'hlt).ns).length) cn22_16c), (.slice ci22_16a (((x.xs[k]'hlt).xs).length) ci22_16c)] 33 := own_b5_16
   replace own_b2_2 := own_store own_b2_2 hs ne_b2_2_b5_16
   replace own_b3_4 := own_store own_b3_4 hs ne_b3_4_b5_16
   replace D_ci0 := sa_store D_ci0 hs (by simp)
   replace D_v15_4 := sf_store D_v15_4 hs (by simp)
   replace D_cn22_16 := sa_store D_cn22_16 hs (by simp)
   replace D_ci22_16 := sa_store D_ci22_16 hs (by simp)
   replace A4_10 := arrF_store A4_10 hs (by simp) nb_b5_16_ar9
   replace kw := keeps_store kw hs lo_b5_16
   clear hs
   refine tail_nil (hK15 _ _ ?_)
   refine wp_reg (fun k => k ∉ blks hd4_10) (Ψ := fun W => Arr W w.heap.size 33 5 (SF w (b5_16 :: (blks hd4_10 ++ (b3_4 :: (b2_2 :: []))))) (List.map V.d (x.xs.take k)) va4_10 hd4_10) mixed y16 zz16 (fun W W' k h => h.ext k) A4_10 ?_
   refine .i (fo 4 (hbs rfl e3) Try.underlying33 rfl sz31 rfl) ?_
   refine .i (lo1 (hlc rfl) own_b3_4 nb_b3_4_ar9_10 agg31 sz31 rfl) ?_
   refine .i (v := (.agg #[(.int .u8 ((x.xs[k]'hlt).k)), (.int .i64 ((x.xs[k]'hlt).n)), (.string ((x.xs[k]'hlt).t)), (.slice cn22_16a (((x.xs[k]'hlt).ns).length) cn22_16c), (.slice ci22_16a (((x.xs[k]'hlt).xs).length) ci22_16c)])) (loA (hbs rfl e5) own_b5_16 nb_b5_16_ar9 agg33 sz33 rfl rfl) ?_
   refine .op (φ := IsD (Fr W17) (V.d ((x.xs[k]'hlt)))) (st_d (sub_frnb (fun b hb => A4_10.lt b hb))) (sp_call1 (φ1 := IsD (SA w S (b5_16 :: (blks hd4_10 ++ (b3_4 :: (b2_2 :: []))))) (V.d ((x.xs[k]'hlt)))) ent138 ((hlc rfl).dat (rdV_in (x := (x.xs[k]'hlt)) ht_v22_16 D_cn22_16 D_ci22_16 : Rd W17 (SA w S (b5_16 :: (blks hd4_10 ++ (b3_4 :: (b2_2 :: []))))) (V.d ((x.xs[k]'hlt))) _) (sub_nb (fun b hb => List.mem_cons_of_mem _ (List.mem_append_left _ hb)))) (fun g u1 W hk hgk h1 => (ih ((x.xs[k]'hlt)) (by omega) (by omega) W _ _ h1).mono (ret_fr hk hgk))) ?_
   refine .op (φ := IsD (SF w (b5_16 :: (blks hd4_10 ++ (b3_4 :: (b2_2 :: []))))) (valsD ([(x.xs[k]'hlt)]))) (st_d (sub_nbF (fun b hb => List.mem_cons_of_mem _ (List.mem_append_left _ hb)))) (sp_bsl (ds := [V.d ((x.xs[k]'hlt))]) Try.underlying31 sz33 z33 (lbr rfl) (lbr rfl) ⟨rfl, ((hlc rfl).sup (fr_sf kw (in_cons own_b5_16.lt (in_app A4_10.lt (in_cons own_b3_4.lt (in_cons own_b2_2.lt in_nil)))))), trivial⟩ rfl (by intro e he; simp at he; rcases he with rfl <;> exact width_V _) (fr_sf kw (in_cons own_b5_16.lt (in_app A4_10.lt (in_cons own_b3_4.lt (in_cons own_b2_2.lt in_nil)))))) ?_
   refine .appB (ds := List.map V.d (x.xs.take k)) (es := [V.d ((x.xs[k]'hlt))]) (X := SF w (b5_16 :: (blks hd4_10 ++ (b3_4 :: (b2_2 :: []))))) Try.underlying31 inf33 (lbr rfl) (hlc rfl) (hlc rfl) (sub_nbF (fun b hb => List.mem_cons_of_mem _ (List.mem_append_left _ hb))) (by simp [maxLen]; omega) (by simp; omega) kw.size ?_
   refine .i (fo 4 (hbs rfl e3) Try.underlying33 rfl sz31 rfl) ?_
   refine .done ⟨by kernel_rfl, fun a18 g W18 y18 zz18 hk hg hV hR hP => ?_⟩
   obtain ⟨e29, e28, -, -, -, -, -, -⟩ := hV
   replace e2 := (hR 2 rfl).trans e2
   replace e3 := (hR 3 rfl).trans e3
   replace e17 := (hR 17 rfl).trans e17
   replace e18 := (hR 18 rfl).trans e18
   replace e19 := (hR 19 rfl).trans e19
   obtain ⟨v28_18, ev⟩ : ∃ v, sl a18 28 = v := ⟨_, rfl⟩
   rw [ev] at e28
   obtain ⟨hd28_18, A_28_18, hf28_18⟩ := e28
   have e28 := ev; clear ev
   obtain ⟨v28_18a, v28_18n, v28_18c, ev⟩ := arr_sl A_28_18; subst ev
   replace A_28_18 := arrF_new (M' := (b5_16 :: (blks hd28_18 ++ (b3_4 :: (b2_2 :: []))))) A_28_18 (rep_cons (rep_app (rep_q fun _ h => h) (rep_cons (rep_cons rep_nil))))
   replace A_28_18 : Arr W18 w.heap.size 33 5 (SF w (b5_16 :: (blks hd28_18 ++ (b3_4 :: (b2_2 :: []))))) (List.map V.d ((x.xs.take k) ++ [(x.xs[k]'hlt)])) (.slice v28_18a v28_18n v28_18c) hd28_18 := by first | exact A_28_18 | (rw [List.map_append]; exact A_28_18)
   have nb_b2_2_18 : b2_2 ∉ blks hd28_18 := nb_new nb_b2_2_ar9_10 own_b2_2.lt hf28_18
   have nb_b3_4_18 : b3_4 ∉ blks hd28_18 := nb_new nb_b3_4_ar9_10 own_b3_4.lt hf28_18
   have nb_b5_16_18 : b5_16 ∉ blks hd28_18 := nb_new nb_b5_16_ar9 own_b5_16.lt hf28_18
   replace D_ci0 := sa_app (M' := (b5_16 :: (blks hd28_18 ++ (b3_4 :: (b2_2 :: []))))) D_ci0 hk (fun b hb => List.mem_cons_of_mem _ (List.mem_append_left _ hb)) (rep_cons (rep_app hf28_18 (rep_cons (rep_cons rep_nil))))
   replace D_v15_4 := sf_app (M' := (b5_16 :: (blks hd28_18 ++ (b3_4 :: (b2_2 :: []))))) D_v15_4 hk (fun b hb => List.mem_cons_of_mem _ (List.mem_append_left _ hb)) (rep_cons (rep_app hf28_18 (rep_cons (rep_cons rep_nil))))
   replace D_cn22_16 := sa_app (M' := (b5_16 :: (blks hd28_18 ++ (b3_4 :: (b2_2 :: []))))) D_cn22_16 hk (fun b hb => List.mem_cons_of_mem _ (List.mem_append_left _ hb)) (rep_cons (rep_app hf28_18 (rep_cons (rep_cons rep_nil))))
   replace D_ci22_16 := sa_app (M' := (b5_16 :: (blks hd28_18 ++ (b3_4 :: (b2_2 :: []))))) D_ci22_16 hk (fun b hb => List.mem_cons_of_mem _ (List.mem_append_left _ hb)) (rep_cons (rep_app hf28_18 (rep_cons (rep_cons rep_nil))))
   replace own_b2_2 := own_app own_b2_2 hk nb_b2_2_ar9_10
   replace own_b3_4 := own_app own_b3_4 hk nb_b3_4_ar9_10
   replace own_b5_16 := own_app own_b5_16 hk nb_b5_16_ar9
   replace kw := keeps_app kw hk A4_10.ge
   have e29 : sl a18 29 = (.pointer (some ⟨b3_4, 4, none⟩)) := e29
   clear hR hk hg hP hf28_18 A4_10
   refine tail_store (b := b3_4) (o := 4) (v := (.slice v28_18a v28_18n v28_18c)) e29 e28 sz31 rfl own_b3_4 (lbr rfl) (all_cons rfl all_nil) (fun W19 hs own_b3_4 => ?_)
   have own_b3_4 : Own W19 b3_4 [(.int .u8 (x.k)), (.int .i64 (x.n)), (.string (x.t)), (.slice v15_4a (x.ns.length) v15_4c), (.slice v28_18a v28_18n v28_18c)] 33 := own_b3_4
   replace own_b2_2 := own_store own_b2_2 hs ne_b2_2_b3_4
   replace own_b5_16 := own_store own_b5_16 hs ne_b3_4_b5_16.symm
   replace D_ci0 := sa_store D_ci0 hs (by simp)
   replace D_v15_4 := sf_store D_v15_4 hs (by simp)
   replace D_cn22_16 := sa_store D_cn22_16 hs (by simp)
   replace D_ci22_16 := sa_store D_ci22_16 hs (by simp)
   replace A_28_18 := arrF_store A_28_18 hs (by simp) nb_b3_4_18
   replace kw := keeps_store kw hs lo_b3_4
   clear hs
   refine tail_nil (hK14 _ _ ?_)
   refine rg mixed y18 zz18 ?_
   refine .i (sp_add (hbs rfl e19) Has.cst (i64_in (by omega))) ?_
   refine .i (sp_move (hlc rfl)) ?_
   refine .done ⟨by kernel_rfl, fun a20 g W20 y20 zz20 hk hg hV hR hP => ?_⟩
   obtain ⟨e19, -, -⟩ := hV
   replace e2 := (hR 2 rfl).trans e2
   replace e3 := (hR 3 rfl).trans e3
   replace e17 := (hR 17 rfl).trans e17
   replace e18 := (hR 18 rfl).trans e18
   replace A_28_18 := A_28_18.ext hk
   replace D_ci0 := D_ci0.ext hk
   replace D_v15_4 := D_v15_4.ext hk
   replace e19 := e19.q
   replace own_b2_2 := own_b2_2.ext hk
   replace own_b3_4 := own_b3_4.ext hk
   replace own_b5_16 := own_b5_16.ext hk
   replace kw := kw.x hk
   clear hR hk hg hP
   rw [show (x.xs.take k) ++ [(x.xs[k]'hlt)] = x.xs.take (k + 1) by rw [List.take_succ_eq_append_getElem hlt]] at A_28_18
   exact tail_nil ⟨hlt, (.slice v28_18a v28_18n v28_18c), hd28_18, y20, zz20, kw, e2, e3, e17, e18, (e19.trans (congrArg (Value.int .i64) (by simp))), own_b2_2, own_b3_4, (sa_less D_ci0 (ls_skip (ls_keepA (ls_keep (ls_keep ls_nil))))), (sf_less D_v15_4 (ls_skip (ls_keepA (ls_keep (ls_keep ls_nil))))), (arrF_less A_28_18 (ls_skip (ls_keepA (ls_keep (ls_keep ls_nil))))), nb_b2_2_18, nb_b3_4_18⟩
  ·
   have hge0 : ¬ k < x.xs.length := by simpa using hc
   have hge : k = x.xs.length := by omega
   rw [show x.xs.take k = x.xs by rw [hge, List.take_length]] at A4_10
   have D_va4_10 : Rd W12 (SF w [b3_4, b2_2]) (valsD (x.xs)) va4_10 := arrF_rd A4_10 (ls_skipA (ls_keep (ls_keep ls_nil))) (nin_cons nb_b3_4_ar9_10 (nin_cons nb_b2_2_ar9_10 nin_nil))
   obtain ⟨va4_10a, va4_10c, ev, D2⟩ := rdVs_out D_va4_10
   subst ev; replace D_va4_10 := D2; clear D2
   replace D_ci0 := sa_less (M' := [b3_4, b2_2]) D_ci0 (ls_skipA (ls_keep (ls_keep ls_nil)))
   replace D_v15_4 := sf_less (M' := [b3_4, b2_2]) D_v15_4 (ls_skipA (ls_keep (ls_keep ls_nil)))
   refine wp_exit (hK6 _ _ ?_)
   refine wp_seq_k fun K21 hK21 => ?_
   refine rg mixed y12 zz12 ?_
   refine .i (v := (.agg #[(.int .u8 (x.k)), (.int .i64 (x.n)), (.string (x.t)), (.slice v15_4a (x.ns.length) v15_4c), (.slice va4_10a (x.xs.length) va4_10c)])) (loA (hbs rfl e3) own_b3_4 trivial agg33 sz33 rfl rfl) ?_
   refine .done ⟨by kernel_rfl, fun a22 g W22 y22 zz22 hk hg hV hR hP => ?_⟩
   obtain ⟨e31, -⟩ := hV
   replace e2 := (hR 2 rfl).trans e2
   replace D_ci0 := D_ci0.ext hk
   replace D_v15_4 := D_v15_4.ext hk
   replace D_va4_10 := D_va4_10.ext hk
   replace e31 := e31.q
   replace own_b2_2 := own_b2_2.ext hk
   replace own_b3_4 := own_b3_4.ext hk
   replace kw := kw.x hk
   clear hR hk hg hP
   refine tail_store (b := b2_2) (o := 0) (v := (.agg #[(.int .u8 (x.k)), (.int .i64 (x.n)), (.string (x.t)), (.slice v15_4a (x.ns.length) v15_4c), (.slice va4_10a (x.xs.length) va4_10c)])) e2 e31 sz33 rfl own_b2_2 (lbr rfl) (all_cons rfl (all_cons rfl (all_cons rfl (all_cons rfl (all_cons rfl all_nil))))) (fun W23 hs own_b2_2 => ?_)
   have own_b2_2 : Own W23 b2_2 [(.int .u8 (x.k)), (.int .i64 (x.n)), (.string (x.t)), (.slice v15_4a (x.ns.length) v15_4c), (.slice va4_10a (x.xs.length) va4_10c)] 33 := own_b2_2
   replace own_b3_4 := own_store own_b3_4 hs ne_b2_2_b3_4.symm
   replace D_ci0 := sa_store D_ci0 hs (by simp)
   replace D_v15_4 := sf_store D_v15_4 hs (by simp)
   replace D_va4_10 := sf_store D_va4_10 hs (by simp)
   replace kw := keeps_store kw hs lo_b2_2
   clear hs
   refine tail_nil (hK21 _ _ ?_)
   refine wp_ret ?_
   refine (show bodyPost Try.prog Try.f138 _ .ret _ _ from retC (v := (.agg #[(.int .u8 (x.k)), (.int .i64 (x.n)), (.string (x.t)), (.slice v15_4a (x.ns.length) v15_4c), (.slice va4_10a (x.xs.length) va4_10c)])) rfl zz22 e2 own_b2_2 agg33 sz33 rfl (fun h => by cases h) rfl ⟨_, rfl, kw, ?_⟩)
   exact sf_fr (rdV_in (x := x) ht0 D_v15_4 D_va4_10 : Rd W23 (SF w [b3_4, b2_2]) (V.d (x)) _)
set_option maxRecDepth 100000 in
theorem Copy_ok (x : V) (hx : x.wt ≤ 1073741824) (w : World) (S : BSet) (v : Value) (hS : ∀ b o, S b o → Cln o) (hv : Rd w S x.d v) : Calls Try.prog 79 #[v] w (Ret w fun u W => Rd W (Fr w) x.d u) := by
  have hwx := wt_eq x
  have hwl := wts_len x.xs
  have hwn := wtN_len x.ns
  obtain ⟨cn0a, cn0c, ci0a, ci0c, ev, ht0, D_cn0, D_ci0⟩ := rdV_out (rd_arg hv)
  subst ev
  refine enter Try.func79 rfl Try.ntmps79 (lbr rfl) fun a0 y0 zz0 harg => ?_
  have e0 : sl a0 0 = (.agg #[(.int .u8 (x.k)), (.int .i64 (x.n)), (.string (x.t)), (.slice cn0a (x.ns.length) cn0c), (.slice ci0a (x.xs.length) ci0c)]) := harg 0 (lbr rfl)
  have kw := Keeps.refl All w
  clear harg
  refine wp_seq_k fun K1 hK1 => ?_
  refine rg mixed y0 zz0 ?_
  refine .boxOp (v := (.agg #[(.int .u8 (x.k)), (.int .i64 (x.n)), (.string (x.t)), (.slice cn0a (x.ns.length) cn0c), (.slice ci0a (x.xs.length) ci0c)])) (hbs rfl e0) ?_
  refine .alloc z33 ?_
  refine .done ⟨by kernel_rfl, fun a2 g W2 y2 zz2 hk hg hV hR hP => ?_⟩
  obtain ⟨⟨b2_2, e2, hb2, own_b2_2⟩, ⟨b1_2, e1, hb1, own_b1_2⟩, -⟩ := hV
  have lo_b2_2 : w.heap.size ≤ b2_2 := Nat.le_trans kw.size (hg.lo _ _ hb2)
  have own_b2_2 : Own W2 b2_2 [(.int .u8 (0)), (.int .i64 (0)), (.string (⟨#[]⟩)), (.slice none 0 0), (.slice none 0 0)] 33 := own_b2_2
  have lo_b1_2 : w.heap.size ≤ b1_2 := Nat.le_trans kw.size (hg.lo _ _ hb1)
  have own_b1_2 : Own W2 b1_2 [(.int .u8 (x.k)), (.int .i64 (x.n)), (.string (x.t)), (.slice cn0a (x.ns.length) cn0c), (.slice ci0a (x.xs.length) ci0c)] 33 := own_b1_2
  have ne_b2_2_b1_2 : b2_2 ≠ b1_2 := fun h => by have := hg.inj _ _ _ hb2 (h ▸ hb1); cases this
  replace D_cn0 := sa_more D_cn0 hk [b2_2, b1_2] (in_cons (hg.lo _ _ hb2) (in_cons (hg.lo _ _ hb1) in_nil))
  replace D_ci0 := sa_more D_ci0 hk [b2_2, b1_2] (in_cons (hg.lo _ _ hb2) (in_cons (hg.lo _ _ hb1) in_nil))
  replace kw := kw.x hk
  clear hR hk hg hP hb2 hb1
  refine tail_nil (hK1 _ _ ?_)
  refine wp_seq_k fun K3 hK3 => ?_
  refine rg mixed y2 zz2 ?_
  refine .i (fo 0 (hbs rfl e1) Try.underlying33 rfl sz5 rfl) ?_
  refine .i (lo1 (hlc rfl) own_b1_2 trivial agg5 sz5 rfl) ?_
  refine .i (fo 1 (hbs rfl e1) Try.underlying33 rfl sz2 rfl) ?_
  refine .i (lo1 (hlc rfl) own_b1_2 trivial agg2 sz2 rfl) ?_
  refine .i (fo 2 (hbs rfl e1) Try.underlying33 rfl sz9 rfl) ?_
  refine .i (lo1 (hlc rfl) own_b1_2 trivial agg9 sz9 rfl) ?_
  refine .i (fo 3 (hbs rfl e1) Try.underlying33 rfl sz23 rfl) ?_
  refine .i (lo1 (hlc rfl) own_b1_2 trivial agg23 sz23 rfl) ?_
  refine .da (X := Fr W2) (e := strsD (x.ns)) (sp_call1 (φ1 := IsD (SA w S [b2_2, b1_2]) (strsD (x.ns))) ent136 ((hlc rfl).dat D_cn0 sub_all) (fun g u1 W hk hgk h1 => (clone_ok (x.ns) (by omega) W _ _ h1).mono (ret_fr hk hgk))) ?_
  refine .op (φ := IsHole (fun v => .agg #[(.int .u8 (x.k)), (.int .i64 (x.n)), (.string (x.t)), v, (.slice none 0 0)]) (IsD (Fr W2) (strsD (x.ns)))) (st_hole (st_d sub_all)) (sp_build1 (vs := [(0, some (.int .u8 (x.k))), (1, some (.int .i64 (x.n))), (2, some (.string (x.t))), (3, none)]) (cells := fun v => #[(.int .u8 (x.k)), (.int .i64 (x.n)), (.string (x.t)), v, (.slice none 0 0)]) Try.underlying33 z33 (pl33 Try.underlying33) (hlc rfl) (fun _ => by simp [Op.operands]) sl_strs ⟨rfl, (hlc rfl), ⟨rfl, (hlc rfl), ⟨rfl, (hlc rfl), ⟨rfl, rfl, trivial⟩⟩⟩⟩ (fun _ _ _ => rfl)) ?_
  refine .alloc z33 ?_
  refine .done ⟨by kernel_rfl, fun a4 g W4 y4 zz4 hk hg hV hR hP => ?_⟩
  obtain ⟨⟨b3_4, e3, hb3, own_b3_4⟩, e15, -, -, -, -, -, -, -, -, -, -⟩ := hV
  have lo_b3_4 : w.heap.size ≤ b3_4 := Nat.le_trans kw.size (hg.lo _ _ hb3)
  have ne_b2_2_b3_4 : b2_2 ≠ b3_4 := Nat.ne_of_lt (Nat.lt_of_lt_of_le own_b2_2.lt (hg.lo _ _ hb3))
  have ne_b1_2_b3_4 : b1_2 ≠ b3_4 := Nat.ne_of_lt (Nat.lt_of_lt_of_le own_b1_2.lt (hg.lo _ _ hb3))
  have own_b3_4 : Own W4 b3_4 [(.int .u8 (0)), (.int .i64 (0)), (.string (⟨#[]⟩)), (.slice none 0 0), (.slice none 0 0)] 33 := own_b3_4
  replace e2 := (hR 2 rfl).trans e2
  replace e1 := (hR 1 rfl).trans e1
  replace D_cn0 := sa_more D_cn0 hk [b3_4] (in_cons (hg.lo _ _ hb3) in_nil)
  replace D_ci0 := sa_more D_ci0 hk [b3_4] (in_cons (hg.lo _ _ hb3) in_nil)
  obtain ⟨v15_4a, v15_4n, v15_4c, ev, D_v15_4⟩ := e15
  replace D_v15_4 : Rd W4 (SF w [b3_4, b2_2, b1_2]) (strsD (x.ns)) _ := fr_end (M := [b2_2, b1_2]) D_v15_4 kw [b3_4] (in_cons ⟨_, hb3⟩ in_nil) (in_cons own_b2_2.lt (in_cons own_b1_2.lt in_nil))
  obtain ⟨xa, xc, ev2, D2⟩ := rdS_out D_v15_4
  injection ev2 with h1 h2 h3; subst h1 h2 h3; clear D2
  have e15 : sl a4 15 = (.agg #[(.int .u8 (x.k)), (.int .i64 (x.n)), (.string (x.t)), (.slice v15_4a (x.ns.length) v15_4c), (.slice none 0 0)]) := ev; clear ev
  replace own_b2_2 := own_b2_2.ext hk
  replace own_b1_2 := own_b1_2.ext hk
  replace kw := kw.x hk
  clear hR hk hg hP hb3
  refine tail_store (b := b3_4) (o := 0) (v := (.agg #[(.int .u8 (x.k)), (.int .i64 (x.n)), (.string (x.t)), (.slice v15_4a (x.ns.length) v15_4c), (.slice none 0 0)])) e3 e15 sz33 rfl own_b3_4 (lbr rfl) (all_cons rfl (all_cons rfl (all_cons rfl (all_cons rfl (all_cons rfl all_nil))))) (fun W5 hs own_b3_4 => ?_)
  have own_b3_4 : Own W5 b3_4 [(.int .u8 (x.k)), (.int .i64 (x.n)), (.string (x.t)), (.slice v15_4a (x.ns.length) v15_4c), (.slice none 0 0)] 33 := own_b3_4
  replace own_b2_2 := own_store own_b2_2 hs ne_b2_2_b3_4
  replace own_b1_2 := own_store own_b1_2 hs ne_b1_2_b3_4
  replace D_cn0 := sa_store D_cn0 hs (by simp)
  replace D_ci0 := sa_store D_ci0 hs (by simp)
  replace D_v15_4 := sf_store D_v15_4 hs (by simp)
  replace kw := keeps_store kw hs lo_b3_4
  clear hs
  refine tail_nil (hK3 _ _ ?_)
  refine wp_seq_k fun K6 hK6 => ?_
  refine wp_seq_k fun K7 hK7 => ?_
  refine rg mixed y4 zz4 ?_
  refine .i (fo 4 (hbs rfl e1) Try.underlying33 rfl sz31 rfl) ?_
  refine .i (lo1 (hlc rfl) own_b1_2 trivial agg31 sz31 rfl) ?_
  refine .i (sp_lenVs Try.underlying31 ((hlc rfl).dat D_ci0 sub_all)) ?_
  refine .i (sp_move Has.cst) ?_
  refine .done ⟨by kernel_rfl, fun a8 g W8 y8 zz8 hk hg hV hR hP => ?_⟩
  obtain ⟨e19, e18, e17, -, -⟩ := hV
  replace e2 := (hR 2 rfl).trans e2
  replace e3 := (hR 3 rfl).trans e3
  replace D_cn0 := D_cn0.ext hk
  replace D_ci0 := D_ci0.ext hk
  replace D_v15_4 := D_v15_4.ext hk
  have e17 : sl a8 17 = (.slice ci0a (x.xs.length) ci0c) := e17
  have e18 : sl a8 18 = (.int .i64 (x.xs.length)) := e18
  have e19 : sl a8 19 = (.int .i64 (0)) := e19
  replace own_b2_2 := own_b2_2.ext hk
  replace own_b1_2 := own_b1_2.ext hk
  replace own_b3_4 := own_b3_4.ext hk
  replace kw := kw.x hk
  clear hR hk hg hP
  refine tail_nil (hK7 _ _ ?_)
  refine wp_block ?_
  replace D_ci0 := sa_less (M' := [b3_4, b2_2]) D_ci0 (ls_keep (ls_keep ls_nil))
  replace D_v15_4 := sf_less (M' := [b3_4, b2_2]) D_v15_4 (ls_keep (ls_keep ls_nil))
  have A_ar9 : Arr W8 w.heap.size 33 5 (SF w (blks none ++ (b3_4 :: (b2_2 :: [])))) (List.map V.d ([])) (.slice none 0 0) none := arr_nil _ _ _ _ _
  replace D_ci0 : Rd W8 (SA w S (blks none ++ (b3_4 :: (b2_2 :: [])))) (valsD (x.xs)) (.slice ci0a (x.xs.length) ci0c) := D_ci0
  replace D_v15_4 : Rd W8 (SF w (blks none ++ (b3_4 :: (b2_2 :: [])))) (strsD (x.ns)) (.slice v15_4a (x.ns.length) v15_4c) := D_v15_4
  refine wp_for (x.xs.length) (fun k a W => ∃ (va4_10 : Value), ∃ (hd4_10 : Option Nat), a.tmps.size = 36 ∧ a.defers = [] ∧ Keeps All w W ∧ sl a 2 = (.pointer (some ⟨b2_2, 0, none⟩)) ∧ sl a 3 = (.pointer (some ⟨b3_4, 0, none⟩)) ∧ sl a 17 = (.slice ci0a (x.xs.length) ci0c) ∧ sl a 18 = (.int .i64 (x.xs.length)) ∧ sl a 19 = (.int .i64 ((k : Nat))) ∧ Own W b2_2 [(.int .u8 (0)), (.int .i64 (0)), (.string (⟨#[]⟩)), (.slice none 0 0), (.slice none 0 0)] 33 ∧ Own W b3_4 [(.int .u8 (x.k)), (.int .i64 (x.n)), (.string (x.t)), (.slice v15_4a (x.ns.length) v15_4c), va4_10] 33 ∧ Rd W (SA w S (blks hd4_10 ++ (b3_4 :: (b2_2 :: [])))) (valsD (x.xs)) (.slice ci0a (x.xs.length) ci0c) ∧ Rd W (SF w (blks hd4_10 ++ (b3_4 :: (b2_2 :: [])))) (strsD (x.ns)) (.slice v15_4a (x.ns.length) v15_4c) ∧ Arr W w.heap.size 33 5 (SF w (blks hd4_10 ++ (b3_4 :: (b2_2 :: [])))) (List.map V.d (x.xs.take k)) va4_10 hd4_10 ∧ b2_2 ∉ blks hd4_10 ∧ b3_4 ∉ blks hd4_10) ⟨(.slice none 0 0), none, y8, zz8, kw, e2, e3, e17, e18, (e19.trans (congrArg (Value.int .i64) (rfl))), own_b2_2, own_b3_4, D_ci0, D_v15_4, A_ar9, nb_none, nb_none⟩ ?_
  clear kw e2 e3 e17 e18 e19 own_b2_2 own_b3_4 D_ci0 D_v15_4 A_ar9
  rintro k a10 W10 hkk ⟨va4_10, hd4_10, y10, zz10, kw, e2, e3, e17, e18, e19, own_b2_2, own_b3_4, D_ci0, D_v15_4, A4_10, nb_b2_2_ar9_10, nb_b3_4_ar9_10⟩
  refine wp_seq_k fun K11 hK11 => ?_
  refine rg mixed y10 zz10 ?_
  refine .i (sp_lss (hbs rfl e19) (hbs rfl e18)) ?_
  refine .done ⟨by kernel_rfl, fun a12 g W12 y12 zz12 hk hg hV hR hP => ?_⟩
  obtain ⟨e20, -⟩ := hV
  replace e2 := (hR 2 rfl).trans e2
  replace e3 := (hR 3 rfl).trans e3
  replace e17 := (hR 17 rfl).trans e17
  replace e18 := (hR 18 rfl).trans e18
  replace e19 := (hR 19 rfl).trans e19
  replace A4_10 := A4_10.ext hk
  replace D_ci0 := D_ci0.ext hk
  replace D_v15_4 := D_v15_4.ext hk
  replace e20 := e20.q
  replace own_b2_2 := own_b2_2.ext hk
  replace own_b3_4 := own_b3_4.ext hk
  replace kw := kw.x hk
  clear hR hk hg hP
  refine tail_nil (hK11 _ _ ?_)
  refine wp_seq_k fun K13 hK13 => ?_
  refine wp_cond_split e20 (fun hc => ?_) (fun hc => ?_)
  ·
   have hlt : k < x.xs.length := by simpa using hc
   have hwm := wts_mem hlt
   have hwc := cnts_wts (x.xs[k]).xs
   have hwe := wt_eq x.xs[k]
   refine wp_skip (hK13 _ _ ?_)
   refine wp_seq_k fun K14 hK14 => ?_
   refine wp_block ?_
   refine wp_seq_k fun K15 hK15 => ?_
   refine rg mixed y12 zz12 ?_
   refine .rf (sp_indexV (i := k) ((hbs rfl e17).dat D_ci0 sub_all) (hbs rfl e19) Try.underlying31 sz33 rfl hlt) ?_
   refine .da (sp_loadV (hlc rfl) agg33 sz33) ?_
   refine .alloc z33 ?_
   refine .done ⟨by kernel_rfl, fun a16 g W16 y16 zz16 hk hg hV hR hP => ?_⟩
   obtain ⟨⟨b5_16, e5, hb5, own_b5_16⟩, e22, -, -⟩ := hV
   have lo_b5_16 : w.heap.size ≤ b5_16 := Nat.le_trans kw.size (hg.lo _ _ hb5)
   have ne_b2_2_b5_16 : b2_2 ≠ b5_16 := Nat.ne_of_lt (Nat.lt_of_lt_of_le own_b2_2.lt (hg.lo _ _ hb5))
   have ne_b3_4_b5_16 : b3_4 ≠ b5_16 := Nat.ne_of_lt (Nat.lt_of_lt_of_le own_b3_4.lt (hg.lo _ _ hb5))
   have own_b5_16 : Own W16 b5_16 [(.int .u8 (0)), (.int .i64 (0)), (.string (⟨#[]⟩)), (.slice none 0 0), (.slice none 0 0)] 33 := own_b5_16
   replace e2 := (hR 2 rfl).trans e2
   replace e3 := (hR 3 rfl).trans e3
   replace e17 := (hR 17 rfl).trans e17
   replace e18 := (hR 18 rfl).trans e18
   replace e19 := (hR 19 rfl).trans e19
   have nb_b5_16_ar9 : b5_16 ∉ blks hd4_10 := nb_lt A4_10.lt (hg.lo _ _ hb5)
   replace A4_10 : Arr W16 w.heap.size 33 5 (SF w (b5_16 :: (blks hd4_10 ++ (b3_4 :: (b2_2 :: []))))) (List.map V.d (x.xs.take k)) va4_10 hd4_10 := arrF_more A4_10 hk [b5_16] (in_cons (hg.lo _ _ hb5) in_nil)
   replace D_ci0 : Rd W16 (SA w S (b5_16 :: (blks hd4_10 ++ (b3_4 :: (b2_2 :: []))))) (valsD (x.xs)) (.slice ci0a (x.xs.length) ci0c) := sa_more D_ci0 hk [b5_16] (in_cons (hg.lo _ _ hb5) in_nil)
   replace D_v15_4 : Rd W16 (SF w (b5_16 :: (blks hd4_10 ++ (b3_4 :: (b2_2 :: []))))) (strsD (x.ns)) (.slice v15_4a (x.ns.length) v15_4c) := sf_more D_v15_4 hk [b5_16] (in_cons (hg.lo _ _ hb5) in_nil)
   obtain ⟨v22_16, ev⟩ : ∃ v, sl a16 22 = v := ⟨_, rfl⟩
   rw [ev] at e22
   have D_v22_16 : Rd W16 (SA w S (b5_16 :: (blks hd4_10 ++ (b3_4 :: (b2_2 :: []))))) (V.d (x.xs[k]'hlt)) v22_16 := sa_end e22 hk [b5_16] (in_cons ⟨_, hb5⟩ in_nil)
   replace e22 := ev; clear ev
   obtain ⟨cn22_16a, cn22_16c, ci22_16a, ci22_16c, ev, ht_v22_16, D_cn22_16, D_ci22_16⟩ := rdV_out D_v22_16
   subst ev; clear D_v22_16
   replace own_b2_2 := own_b2_2.ext hk
   replace own_b3_4 := own_b3_4.ext hk
   replace kw := kw.x hk
   clear hR hk hg hP hb5
   refine tail_store (b := b5_16) (o := 0) (v := (.agg #[(.int .u8 ((x.xs[k]'hlt).k)), (.int .i64 ((x.xs[k]'hlt).n)), (.string ((x.xs[k]'hlt).t)), (.slice cn22_16a (((x.xs[k]'hlt).ns).length) cn22_16c), (.slice ci22_16a (((x.xs[k]'hlt).xs).length) ci22_16c)])) e5 e22 sz33 rfl own_b5_16 (lbr rfl) (all_cons rfl (all_cons rfl (all_cons rfl (all_cons rfl (all_cons rfl all_nil))))) (fun W17 hs own_b5_16 => ?_)
   have own_b5_16 : Own W17 b5_16 [(.int .u8 ((x.xs[k]'hlt).k)), (.int .i64 ((x.xs[k]'hlt).n)), (.string ((x.xs[k]'hlt).t)), (.slice cn22_16a (((x.xs[k]'hlt).ns).length) cn22_16c), (.slice ci22_16a (((x.xs[k]'hlt).xs).length) ci22_16c)] 33 := own_b5_16
   replace own_b2_2 := own_store own_b2_2 hs ne_b2_2_b5_16
   replace own_b3_4 := own_store own_b3_4 hs ne_b3_4_b5_16
   replace D_ci0 := sa_store D_ci0 hs (by simp)
   replace D_v15_4 := sf_store D_v15_4 hs (by simp)
   replace D_cn22_16 := sa_store D_cn22_16 hs (by simp)
   replace D_ci22_16 := sa_store D_ci22_16 hs (by simp)
   replace A4_10 := arrF_store A4_10 hs (by simp) nb_b5_16_ar9
   replace kw := keeps_store kw hs lo_b5_16
   clear hs
   refine tail_nil (hK15 _ _ ?_)
   refine wp_seq_k fun K18 hK18 => ?_
   refine wp_seq_k fun K19 hK19 => ?_
   refine rg mixed y16 zz16 ?_
   refine .i (fo 4 (hbs rfl e5) Try.underlying33 rfl sz31 rfl) ?_
   refine .i (lo1 (hlc rfl) own_b5_16 trivial agg31 sz31 rfl) ?_
   refine .i (v := (.bool (false))) (sp_call4 (φ1 := IsD (SA w S (b5_16 :: (blks hd4_10 ++ (b3_4 :: (b2_2 :: []))))) (valsD ((x.xs[k]'hlt).xs))) (φ2 := Is (.int .i64 (1))) (φ3 := Is (.pointer none)) (φ4 := Is (.bool (false))) ent137 ((hlc rfl).dat D_ci22_16 sub_all) Has.cst Has.cst Has.cst (fun g u1 u2 u3 u4 W hk hgk h1 h2 h3 h4 => by have h2 : u2 = _ := h2; subst u2; have h3 : u3 = _ := h3; subst u3; have h4 : u4 = _ := h4; subst u4; exact endless_all _ ((x.xs[k]'hlt).xs) (Nat.lt_succ_self _) (1) (by omega) (by omega) (false) _ W _ _ (fun b o h => sa_cln hS b o h.1) h1 (Or.inl rfl))) ?_
   refine .done ⟨by kernel_rfl, fun a20 g W20 y20 zz20 hk hg hV hR hP => ?_⟩
   obtain ⟨e25, -, -, -⟩ := hV
   replace e2 := (hR 2 rfl).trans e2
   replace e3 := (hR 3 rfl).trans e3
   replace e17 := (hR 17 rfl).trans e17
   replace e18 := (hR 18 rfl).trans e18
   replace e19 := (hR 19 rfl).trans e19
   replace e5 := (hR 5 rfl).trans e5
   replace A4_10 := A4_10.ext hk
   replace D_ci0 := D_ci0.ext hk
   replace D_v15_4 := D_v15_4.ext hk
   replace D_cn22_16 := D_cn22_16.ext hk
   replace D_ci22_16 := D_ci22_16.ext hk
   have e25 : sl a20 25 = (.bool (false)) := e25
   replace own_b2_2 := own_b2_2.ext hk
   replace own_b3_4 := own_b3_4.ext hk
   replace own_b5_16 := own_b5_16.ext hk
   replace kw := kw.x hk
   clear hR hk hg hP
   refine tail_nil (hK19 _ _ ?_)
   refine wp_cond_false e25 ?_
   refine wp_skip (hK18 _ _ ?_)
   refine wp_reg (fun k => k ∉ blks hd4_10) (Ψ := fun W => Arr W w.heap.size 33 5 (SF w (b5_16 :: (blks hd4_10 ++ (b3_4 :: (b2_2 :: []))))) (List.map V.d (x.xs.take k)) va4_10 hd4_10) mixed y20 zz20 (fun W W' k h => h.ext k) A4_10 ?_
   refine .i (fo 4 (hbs rfl e3) Try.underlying33 rfl sz31 rfl) ?_
   refine .i (lo1 (hlc rfl) own_b3_4 nb_b3_4_ar9_10 agg31 sz31 rfl) ?_
   refine .i (v := (.agg #[(.int .u8 ((x.xs[k]'hlt).k)), (.int .i64 ((x.xs[k]'hlt).n)), (.string ((x.xs[k]'hlt).t)), (.slice cn22_16a (((x.xs[k]'hlt).ns).length) cn22_16c), (.slice ci22_16a (((x.xs[k]'hlt).xs).length) ci22_16c)])) (loA (hbs rfl e5) own_b5_16 nb_b5_16_ar9 agg33 sz33 rfl rfl) ?_
   refine .op (φ := IsD (Fr W20) (V.d ((x.xs[k]'hlt)))) (st_d (sub_frnb (fun b hb => A4_10.lt b hb))) (sp_call1 (φ1 := IsD (SA w S (b5_16 :: (blks hd4_10 ++ (b3_4 :: (b2_2 :: []))))) (V.d ((x.xs[k]'hlt)))) ent138 ((hlc rfl).dat (rdV_in (x := (x.xs[k]'hlt)) ht_v22_16 D_cn22_16 D_ci22_16 : Rd W20 (SA w S (b5_16 :: (blks hd4_10 ++ (b3_4 :: (b2_2 :: []))))) (V.d ((x.xs[k]'hlt))) _) (sub_nb (fun b hb => List.mem_cons_of_mem _ (List.mem_append_left _ hb)))) (fun g u1 W hk hgk h1 => (duplicate_all _ ((x.xs[k]'hlt)) (Nat.le_refl _) (by omega) W _ _ h1).mono (ret_fr hk hgk))) ?_
   refine .op (φ := IsD (SF w (b5_16 :: (blks hd4_10 ++ (b3_4 :: (b2_2 :: []))))) (valsD ([(x.xs[k]'hlt)]))) (st_d (sub_nbF (fun b hb => List.mem_cons_of_mem _ (List.mem_append_left _ hb)))) (sp_bsl (ds := [V.d ((x.xs[k]'hlt))]) Try.underlying31 sz33 z33 (lbr rfl) (lbr rfl) ⟨rfl, ((hlc rfl).sup (fr_sf kw (in_cons own_b5_16.lt (in_app A4_10.lt (in_cons own_b3_4.lt (in_cons own_b2_2.lt in_nil)))))), trivial⟩ rfl (by intro e he; simp at he; rcases he with rfl <;> exact width_V _) (fr_sf kw (in_cons own_b5_16.lt (in_app A4_10.lt (in_cons own_b3_4.lt (in_cons own_b2_2.lt in_nil)))))) ?_
   refine .appB (ds := List.map V.d (x.xs.take k)) (es := [V.d ((x.xs[k]'hlt))]) (X := SF w (b5_16 :: (blks hd4_10 ++ (b3_4 :: (b2_2 :: []))))) Try.underlying31 inf33 (lbr rfl) (hlc rfl) (hlc rfl) (sub_nbF (fun b hb => List.mem_cons_of_mem _ (List.mem_append_left _ hb))) (by simp [maxLen]; omega) (by simp; omega) kw.size ?_
   refine .i (fo 4 (hbs rfl e3) Try.underlying33 rfl sz31 rfl) ?_
   refine .done ⟨by kernel_rfl, fun a21 g W21 y21 zz21 hk hg hV hR hP => ?_⟩
   obtain ⟨e33, e32, -, -, -, -, -, -⟩ := hV
   replace e2 := (hR 2 rfl).trans e2
   replace e3 := (hR 3 rfl).trans e3
   replace e17 := (hR 17 rfl).trans e17
   replace e18 := (hR 18 rfl).trans e18
   replace e19 := (hR 19 rfl).trans e19
   obtain ⟨v32_21, ev⟩ : ∃ v, sl a21 32 = v := ⟨_, rfl⟩
   rw [ev] at e32
   obtain ⟨hd32_21, A_32_21, hf32_21⟩ := e32
   have e32 := ev; clear ev
   obtain ⟨v32_21a, v32_21n, v32_21c, ev⟩ := arr_sl A_32_21; subst ev
   replace A_32_21 := arrF_new (M' := (b5_16 :: (blks hd32_21 ++ (b3_4 :: (b2_2 :: []))))) A_32_21 (rep_cons (rep_app (rep_q fun _ h => h) (rep_cons (rep_cons rep_nil))))
   replace A_32_21 : Arr W21 w.heap.size 33 5 (SF w (b5_16 :: (blks hd32_21 ++ (b3_4 :: (b2_2 :: []))))) (List.map V.d ((x.xs.take k) ++ [(x.xs[k]'hlt)])) (.slice v32_21a v32_21n v32_21c) hd32_21 := by first | exact A_32_21 | (rw [List.map_append]; exact A_32_21)
   have nb_b2_2_21 : b2_2 ∉ blks hd32_21 := nb_new nb_b2_2_ar9_10 own_b2_2.lt hf32_21
   have nb_b3_4_21 : b3_4 ∉ blks hd32_21 := nb_new nb_b3_4_ar9_10 own_b3_4.lt hf32_21
   have nb_b5_16_21 : b5_16 ∉ blks hd32_21 := nb_new nb_b5_16_ar9 own_b5_16.lt hf32_21
   replace D_ci0 := sa_app (M' := (b5_16 :: (blks hd32_21 ++ (b3_4 :: (b2_2 :: []))))) D_ci0 hk (fun b hb => List.mem_cons_of_mem _ (List.mem_append_left _ hb)) (rep_cons (rep_app hf32_21 (rep_cons (rep_cons rep_nil))))
   replace D_v15_4 := sf_app (M' := (b5_16 :: (blks hd32_21 ++ (b3_4 :: (b2_2 :: []))))) D_v15_4 hk (fun b hb => List.mem_cons_of_mem _ (List.mem_append_left _ hb)) (rep_cons (rep_app hf32_21 (rep_cons (rep_cons rep_nil))))
   replace D_cn22_16 := sa_app (M' := (b5_16 :: (blks hd32_21 ++ (b3_4 :: (b2_2 :: []))))) D_cn22_16 hk (fun b hb => List.mem_cons_of_mem _ (List.mem_append_left _ hb)) (rep_cons (rep_app hf32_21 (rep_cons (rep_cons rep_nil))))
   replace D_ci22_16 := sa_app (M' := (b5_16 :: (blks hd32_21 ++ (b3_4 :: (b2_2 :: []))))) D_ci22_16 hk (fun b hb => List.mem_cons_of_mem _ (List.mem_append_left _ hb)) (rep_cons (rep_app hf32_21 (rep_cons (rep_cons rep_nil))))
   replace own_b2_2 := own_app own_b2_2 hk nb_b2_2_ar9_10
   replace own_b3_4 := own_app own_b3_4 hk nb_b3_4_ar9_10
   replace own_b5_16 := own_app own_b5_16 hk nb_b5_16_ar9
   replace kw := keeps_app kw hk A4_10.ge
   have e33 : sl a21 33 = (.pointer (some ⟨b3_4, 4, none⟩)) := e33
   clear hR hk hg hP hf32_21 A4_10
   refine tail_store (b := b3_4) (o := 4) (v := (.slice v32_21a v32_21n v32_21c)) e33 e32 sz31 rfl own_b3_4 (lbr rfl) (all_cons rfl all_nil) (fun W22 hs own_b3_4 => ?_)
   have own_b3_4 : Own W22 b3_4 [(.int .u8 (x.k)), (.int .i64 (x.n)), (.string (x.t)), (.slice v15_4a (x.ns.length) v15_4c), (.slice v32_21a v32_21n v32_21c)] 33 := own_b3_4
   replace own_b2_2 := own_store own_b2_2 hs ne_b2_2_b3_4
   replace own_b5_16 := own_store own_b5_16 hs ne_b3_4_b5_16.symm
   replace D_ci0 := sa_store D_ci0 hs (by simp)
   replace D_v15_4 := sf_store D_v15_4 hs (by simp)
   replace D_cn22_16 := sa_store D_cn22_16 hs (by simp)
   replace D_ci22_16 := sa_store D_ci22_16 hs (by simp)
   replace A_32_21 := arrF_store A_32_21 hs (by simp) nb_b3_4_21
   replace kw := keeps_store kw hs lo_b3_4
   clear hs
   refine tail_nil (hK14 _ _ ?_)
   refine rg mixed y21 zz21 ?_
   refine .i (sp_add (hbs rfl e19) Has.cst (i64_in (by omega))) ?_
   refine .i (sp_move (hlc rfl)) ?_
   refine .done ⟨by kernel_rfl, fun a23 g W23 y23 zz23 hk hg hV hR hP => ?_⟩
   obtain ⟨e19, -, -⟩ := hV
   replace e2 := (hR 2 rfl).trans e2
   replace e3 := (hR 3 rfl).trans e3
   replace e17 := (hR 17 rfl).trans e17
   replace e18 := (hR 18 rfl).trans e18
   replace A_32_21 := A_32_21.ext hk
   replace D_ci0 := D_ci0.ext hk
   replace D_v15_4 := D_v15_4.ext hk
   replace e19 := e19.q
   replace own_b2_2 := own_b2_2.ext hk
   replace own_b3_4 := own_b3_4.ext hk
   replace own_b5_16 := own_b5_16.ext hk
   replace kw := kw.x hk
   clear hR hk hg hP
   rw [show (x.xs.take k) ++ [(x.xs[k]'hlt)] = x.xs.take (k + 1) by rw [List.take_succ_eq_append_getElem hlt]] at A_32_21
   exact tail_nil ⟨hlt, (.slice v32_21a v32_21n v32_21c), hd32_21, y23, zz23, kw, e2, e3, e17, e18, (e19.trans (congrArg (Value.int .i64) (by simp))), own_b2_2, own_b3_4, (sa_less D_ci0 (ls_skip (ls_keepA (ls_keep (ls_keep ls_nil))))), (sf_less D_v15_4 (ls_skip (ls_keepA (ls_keep (ls_keep ls_nil))))), (arrF_less A_32_21 (ls_skip (ls_keepA (ls_keep (ls_keep ls_nil))))), nb_b2_2_21, nb_b3_4_21⟩
  ·
   have hge0 : ¬ k < x.xs.length := by simpa using hc
   have hge : k = x.xs.length := by omega
   rw [show x.xs.take k = x.xs by rw [hge, List.take_length]] at A4_10
   have D_va4_10 : Rd W12 (SF w [b3_4, b2_2]) (valsD (x.xs)) va4_10 := arrF_rd A4_10 (ls_skipA (ls_keep (ls_keep ls_nil))) (nin_cons nb_b3_4_ar9_10 (nin_cons nb_b2_2_ar9_10 nin_nil))
   obtain ⟨va4_10a, va4_10c, ev, D2⟩ := rdVs_out D_va4_10
   subst ev; replace D_va4_10 := D2; clear D2
   replace D_ci0 := sa_less (M' := [b3_4, b2_2]) D_ci0 (ls_skipA (ls_keep (ls_keep ls_nil)))
   replace D_v15_4 := sf_less (M' := [b3_4, b2_2]) D_v15_4 (ls_skipA (ls_keep (ls_keep ls_nil)))
   refine wp_exit (hK6 _ _ ?_)
   refine wp_seq_k fun K24 hK24 => ?_
   refine rg mixed y12 zz12 ?_
   refine .i (v := (.agg #[(.int .u8 (x.k)), (.int .i64 (x.n)), (.string (x.t)), (.slice v15_4a (x.ns.length) v15_4c), (.slice va4_10a (x.xs.length) va4_10c)])) (loA (hbs rfl e3) own_b3_4 trivial agg33 sz33 rfl rfl) ?_
   refine .done ⟨by kernel_rfl, fun a25 g W25 y25 zz25 hk hg hV hR hP => ?_⟩
   obtain ⟨e35, -⟩ := hV
   replace e2 := (hR 2 rfl).trans e2
   replace D_ci0 := D_ci0.ext hk
   replace D_v15_4 := D_v15_4.ext hk
   replace D_va4_10 := D_va4_10.ext hk
   replace e35 := e35.q
   replace own_b2_2 := own_b2_2.ext hk
   replace own_b3_4 := own_b3_4.ext hk
   replace kw := kw.x hk
   clear hR hk hg hP
   refine tail_store (b := b2_2) (o := 0) (v := (.agg #[(.int .u8 (x.k)), (.int .i64 (x.n)), (.string (x.t)), (.slice v15_4a (x.ns.length) v15_4c), (.slice va4_10a (x.xs.length) va4_10c)])) e2 e35 sz33 rfl own_b2_2 (lbr rfl) (all_cons rfl (all_cons rfl (all_cons rfl (all_cons rfl (all_cons rfl all_nil))))) (fun W26 hs own_b2_2 => ?_)
   have own_b2_2 : Own W26 b2_2 [(.int .u8 (x.k)), (.int .i64 (x.n)), (.string (x.t)), (.slice v15_4a (x.ns.length) v15_4c), (.slice va4_10a (x.xs.length) va4_10c)] 33 := own_b2_2
   replace own_b3_4 := own_store own_b3_4 hs ne_b2_2_b3_4.symm
   replace D_ci0 := sa_store D_ci0 hs (by simp)
   replace D_v15_4 := sf_store D_v15_4 hs (by simp)
   replace D_va4_10 := sf_store D_va4_10 hs (by simp)
   replace kw := keeps_store kw hs lo_b2_2
   clear hs
   refine tail_nil (hK24 _ _ ?_)
   refine wp_ret ?_
   refine (show bodyPost Try.prog Try.f79 _ .ret _ _ from retC (v := (.agg #[(.int .u8 (x.k)), (.int .i64 (x.n)), (.string (x.t)), (.slice v15_4a (x.ns.length) v15_4c), (.slice va4_10a (x.xs.length) va4_10c)])) rfl zz25 e2 own_b2_2 agg33 sz33 rfl (fun h => by cases h) rfl ⟨_, rfl, kw, ?_⟩)
   exact sf_fr (rdV_in (x := x) ht0 D_v15_4 D_va4_10 : Rd W26 (SF w [b3_4, b2_2]) (V.d (x)) _)
end Go.Proofs.Ytnobijngkpflcaa
namespace Go.Eng
theorem sLt_iff (a b : ByteArray) : sLt a b = true ↔ a.toList < b.toList := by unfold sLt; rw [Go.Proofs.bytesLess_eq]; simp
theorem sLt_trans {a b c : ByteArray} (h1 : sLt a b = true) (h2 : sLt b c = true) : sLt a c = true := by
  rw [sLt_iff] at *; exact List.lt_trans h1 h2
theorem sLt_irrefl (a : ByteArray) : sLt a a = false := by
  cases h : sLt a a with
  | false => rfl
  | true => rw [sLt_iff] at h; exact absurd h (List.lt_irrefl _)
theorem asc_lt {ns : List ByteArray} (h : asc ns = true) : ∀ (j i : Nat) (hj : j < ns.length) (hi : i < j), sLt (ns[i]'(by omega)) ns[j] = true := by
  have ha := (asc_iff ns).1 h
  intro j
  induction j with
  | zero => intro i _ hi; omega
  | succ j ih =>
    intro i hj hi
    rcases Nat.lt_succ_iff_lt_or_eq.1 hi with h1 | h1
    · exact sLt_trans (ih i (by omega) h1) (ha j hj)
    · subst h1; exact ha i hj
def lb (ns : List ByteArray) (name : ByteArray) : Nat := (ns.takeWhile fun n => sLt n name).length
theorem lb_le (ns : List ByteArray) (name : ByteArray) : lb ns name ≤ ns.length := by unfold lb; exact (List.takeWhile_sublist _).length_le
theorem take_len {α : Type} (f : α → Bool) : ∀ (l : List α) (m : Nat), m ≤ l.length → (∀ i (h : i < l.length), i < m → f l[i] = true) → (∀ h : m < l.length, f l[m] = false) → (l.takeWhile f).length = m
  | [], m, hm, _, _ => by simp at hm; simp [hm]
  | x :: l, 0, _, _, h2 => by
    have := h2 (by simp)
    simp at this
    simp [List.takeWhile_cons, this]
  | x :: l, m + 1, hm, h1, h2 => by
    have h0 := h1 0 (by simp) (by omega)
    simp at h0
    simp only [List.takeWhile_cons, h0, if_true, List.length_cons]
    rw [take_len f l m (by simpa using hm) (fun i h hi => h1 (i + 1) (by simpa using h) (by omega)) (fun h => h2 (by simpa using h))]
theorem lb_of {ns : List ByteArray} {name : ByteArray} (ha : asc ns = true) {m : Nat} {p : Nat → Bool} (hp : ∀ i (h : i < ns.length), p i = !sLt ns[i] name) (hm : m ≤ ns.length) (h1 : m = 0 ∨ p (m - 1) = false) (h2 : m = ns.length ∨ p m = true) : lb ns name = m := by
  refine take_len _ ns m hm (fun i hi him => ?_) (fun h => ?_)
  · rcases h1 with h1 | h1
    · omega
    · have h3 : sLt ns[m - 1] name = true := by
        have := hp (m - 1) (by omega); rw [h1] at this; simpa using this.symm
      rcases Nat.lt_or_ge i (m - 1) with h4 | h4
      · exact sLt_trans (asc_lt ha (m - 1) i (by omega) h4) h3
      · have : i = m - 1 := by omega
        subst this; exact h3
  · rcases h2 with h2 | h2
    · omega
    · have := hp m h; rw [h2] at this; simpa using this.symm
def idx (name : ByteArray) : List ByteArray → Nat → Int
  | [], _ => -1
  | n :: ns, i => if name = n then i else idx name ns (i + 1)
def findI (ns : List ByteArray) (name : ByteArray) : Int := if asc ns then lb ns name else idx name ns 0
def findB (ns : List ByteArray) (name : ByteArray) : Bool := if asc ns then decide (ns[lb ns name]? = some name) else decide (0 ≤ idx name ns 0)
theorem find_fin (ns : List ByteArray) (name : ByteArray) (m : Nat) : (decide (((m : Nat) : Int) < (ns.length : Int)) && decide (ns.getD m ⟨#[]⟩ = name)) = decide (ns[m]? = some name) := by
  by_cases h : m < ns.length
  · have h' : ((m : Nat) : Int) < (ns.length : Int) := by omega
    simp [h', List.getD_eq_getElem?_getD, h]
  · have h' : ¬ ((m : Nat) : Int) < (ns.length : Int) := by omega
    simp only [h', decide_false, Bool.false_and]
    rw [List.getElem?_eq_none (by omega)]; simp
section
variable {P : Program} {ops : Array Oper} {S : Nat → Prop} {w0 : World} {a0 : Act} {Γ : Ctx}
variable {d : Option Tmp} {ty : TypeId} {pos : String} {af : Array Edge} {gd : Option (Nat × Bool)}
theorem sp_indexSD {x y : Operand} {T E : TypeId} {S' : BSet} {ns : List ByteArray} {i : Nat} {j : Int} (hx : Has S w0 a0 Γ x (IsD S' (strsD ns))) (hy : Has S w0 a0 Γ y (Is (.int .i64 j))) (hT : P.underlying T = some (.slice E)) (hz : szOf P E = some 1)
    (hj : j = i) (hi : i < ns.length) : Spec P ops S w0 a0 Γ ⟨d, .indexAddr T x y, ty, pos, af, gd⟩ (IsR S' (.str (ns.getD i ⟨#[]⟩))) := by
  have := sp_indexS (ty := ty) (pos := pos) (af := af) (gd := gd) (d := d) (ops := ops) hx hy hT hz hj hi
  rw [List.getD_eq_getElem?_getD, List.getElem?_eq_getElem hi]; exact this
end
def V.zero : V := .mk 0 0 ⟨#[]⟩ [] []
end Go.Eng
namespace Go.Eng
section
variable {P : Program} {Q : Exit → Act → World → Prop} {a : Act} {w : World}
def LoopAt (P : Program) (c : Code) (Q : Exit → Act → World → Prop) (a : Act) (w : World) : Prop :=
  ∀ b k cs, ∃ e a' w', Q e a' w' ∧ Arrives P (lone (b.at a (.code c :: .inLoop c :: k)) cs w) b k cs e a' w'
theorem wp_loopAt {c : Code} (h : LoopAt P c Q a w) : (Code.loop c).wp P Q a w := by
  intro b k cs
  obtain ⟨e, a', w', hq, harr⟩ := h b k cs
  exact ⟨e, a', w', hq, .of_steps (.one step_loop) harr⟩
theorem loopAt {c : Code} (h : c.wp P (Exit.then (fun a' w' => LoopAt P c Q a' w') Q) a w) : LoopAt P c Q a w := by
  intro b k cs
  obtain ⟨e, a₁, w₁, hq, harr⟩ := h b (.inLoop c :: k) cs
  cases e with
  | normal =>
    obtain ⟨e₂, a₂, w₂, hq₂, harr₂⟩ := hq b k cs
    exact ⟨e₂, a₂, w₂, hq₂, .of_steps (Steps.trans harr (.one step_inLoop)) harr₂⟩
  | exit id => exact ⟨_, a₁, w₁, hq, .pass (x := .inLoop c) rfl (fun _ _ => .inl (by simp)) harr⟩
  | goto l => exact ⟨_, a₁, w₁, hq, .pass (x := .inLoop c) rfl (fun _ _ => .inl (by simp)) harr⟩
  | ret => exact ⟨_, a₁, w₁, hq, .pass (x := .inLoop c) rfl (fun _ _ => .inl (by simp)) harr⟩
  | panic ch => exact ⟨_, a₁, w₁, hq, .pass (x := .inLoop c) rfl (fun _ _ => .inl (by simp)) harr⟩
  | outgrown => exact ⟨_, a₁, w₁, hq, .pass (x := .inLoop c) rfl (fun _ _ => .inl (by simp)) harr⟩
end
theorem made_list (z : Array Value) (hz : 0 < z.size) : ∀ n : Nat, (madeCells z (n * z.size)).toList = (List.replicate n z.toList).flatten
  | 0 => by simp [madeCells]
  | n + 1 => by
    have ih := made_list z hz n
    rw [List.replicate_succ', List.flatten_append, ← ih]
    simp only [madeCells, Array.toList_map, Array.toList_range]
    rw [Nat.add_mul, Nat.one_mul, List.range_add, List.map_append, List.map_map]
    congr 1
    simp only [List.flatten_cons, List.flatten_nil, List.append_nil]
    apply List.ext_getElem
    · simp
    · intro i h1 h2
      simp at h1
      simp [Nat.mod_eq_of_lt h1, h1]
theorem row_rep {W : World} {X : BSet} {sz : Nat} {zd : D} {cs : List Value} (hl : cs.length = sz) (h : RdC W X zd cs) : ∀ n : Nat, RowIs W X sz (List.replicate n zd) (List.replicate n cs).flatten
  | 0 => rfl
  | n + 1 => by
    rw [List.replicate_succ, List.replicate_succ, List.flatten_cons]
    exact ⟨cs, _, rfl, hl, h, row_rep hl h n⟩
theorem RowIs.set {W : World} {X : BSet} {sz : Nat} {d : D} {c : List Value} (hl : c.length = sz) (h : RdC W X d c) : ∀ {ds : List D} {cs : List Value} (i : Nat), i < ds.length → RowIs W X sz ds cs → RowIs W X sz (ds.set i d) (splice cs (i * sz) c)
  | [], _, i, hi, _ => by simp at hi
  | e :: ds, cs, 0, _, hr => by
    simp only [RowIs] at hr
    obtain ⟨c1, r, rfl, h1, h2, h3⟩ := hr
    simp only [List.set_cons_zero, RowIs]
    exact ⟨c, r, by simp [splice, hl, ← h1], hl, h, h3⟩
  | e :: ds, cs, i + 1, hi, hr => by
    simp only [RowIs] at hr
    obtain ⟨c1, r, rfl, h1, h2, h3⟩ := hr
    simp only [List.set_cons_succ, RowIs]
    refine ⟨c1, splice r (i * sz) c, ?_, h1, h2, RowIs.set hl h i (by simpa using hi) h3⟩
    unfold splice
    rw [Nat.add_mul, Nat.one_mul, Nat.add_comm (i * sz) sz, ← h1, List.take_append, List.drop_append]
    simp [List.take_of_length_le, Nat.add_assoc]
theorem arr_open {W : World} {lo : Nat} {e : TypeId} {sz : Nat} {X : BSet} {ds : List D} {v : Value} {hd : Option Nat} (h : Arr W lo e sz X ds v hd) (hn : 0 < ds.length) : ∃ g cap, v = .slice (some ⟨g, 0, none⟩) ds.length cap ∧ hd = some g := by
  obtain ⟨h1, cs, h2, _⟩ := h
  rcases h2.2 with ⟨_, h0⟩ | ⟨g, cap, cur, rfl, _⟩
  · omega
  · exact ⟨g, cap, rfl, h1.symm⟩
section
variable {P : Program} {ops : Array Oper} {S : Nat → Prop} {w0 : World} {a0 : Act} {Γ : Ctx}
variable {d : Option Tmp} {ty : TypeId} {pos : String} {af : Array Edge} {gd : Option (Nat × Bool)}
theorem sp_mkA {x y : Operand} {T E : TypeId} {n sz bytes lo : Nat} {z : Value} {zd : D} {X : BSet} (hT : P.underlying T = some (.slice E)) (hi : inf P E sz bytes) (hz : zeroOf P E = some z) (hsz : 0 < sz) (hzd : ∀ W X, RdC W X zd z.cells.toList) (hx : Has S w0 a0 Γ x (Is (.int .i64 n))) (hy : Has S w0 a0 Γ y (Is (.int .i64 n)))
    (hn : n * sz ≤ 16777216) (hb : bytes * n ≤ 281474976710656) (hm : n ≤ maxLen) (hlo : lo ≤ w0.heap.size) : Spec P ops S w0 a0 Γ ⟨d, .makeSlice T x y, ty, pos, af, gd⟩ (IsArr w0 lo E sz X (List.replicate n zd) none) := fun a g W hk hg he => by
  have e1 : a.eval x = .int .i64 n := hx.of_env hk hg he (by simp [Op.operands])
  have e2 : a.eval y = .int .i64 n := hy.of_env hk hg he (by simp [Op.operands])
  obtain ⟨i, z', h1, h2, h3, h4, h5⟩ := hi
  have ez : z' = z := by
    unfold zeroOf at hz; rw [h1] at hz; simp [h2] at hz; exact hz
  subst ez
  have hm' : n ≤ 9223372036854775807 := by simp only [maxLen] at hm; omega
  have hr := run_makeSlice (P := P) W T E i _ hT h1 h2 .i64 .i64 n n (by omega) (by omega) (by rw [h3]; simpa using hn) (by rw [h4]; omega) (by omega)
  have hrun : (execOp a.eval ⟨d, .makeSlice T x y, ty, pos, af, gd⟩).run P W = .ok (.value (.slice (some ⟨W.heap.size, 0, none⟩) n n)) (W.alloc (.cells (madeCells z'.cells (n * sz)) E)) := by
    simp only [execOp, e1, e2, Sem.run_bind]
    rw [hr]; simp [h3]
  unfold OpRuns
  rw [hrun]
  have hnew : (W.alloc (.cells (madeCells z'.cells (n * sz)) E)).heap[W.heap.size]? = some (.cells (madeCells z'.cells (n * sz)) E (0, 0)) := by
    show (W.heap.push _)[W.heap.size]? = _
    simp
  have hlist : (madeCells z'.cells (n * sz)).toList = (List.replicate n z'.cells.toList).flatten := by rw [← h5]; exact made_list _ (by omega) n
  refine ⟨ext_alloc _ _, some W.heap.size, ⟨rfl, (madeCells z'.cells (n * sz)).toList, ⟨by simp [madeCells], .inr ⟨W.heap.size, n, madeCells z'.cells (n * sz), by simp, Nat.le_trans hlo hk.size, hnew, by simp, hm, by simp [madeCells], by rw [List.take_of_length_le (by simp [madeCells])]⟩⟩, ?_⟩, fun b hb => .inr ?_⟩
  · rw [hlist]
    exact row_rep (by simpa using h5) (hzd _ _) n
  · simp [blks] at hb; subst hb; exact hk.size
theorem sp_indexRow {x y : Operand} {T E : TypeId} {g0 n cap i o sz : Nat} {j : Int} (hx : Has S w0 a0 Γ x (Is (.slice (some ⟨g0, 0, none⟩) n cap))) (hy : Has S w0 a0 Γ y (Is (.int .i64 j))) (hT : P.underlying T = some (.slice E)) (hz : szOf P E = some sz) (hsz : 0 < sz) (hj : j = i) (hi : i < n) (ho : i * sz = o) :
    Spec P ops S w0 a0 Γ ⟨d, .indexAddr T x y, ty, pos, af, gd⟩ (Is (.pointer (some ⟨g0, o, none⟩))) := sp_val fun a g W hk hg he => by
  have e1 : a.eval x = .slice (some ⟨g0, 0, none⟩) n cap := hx.of_env hk hg he (by simp [Op.operands])
  have e2 : a.eval y = .int .i64 j := hy.of_env hk hg he (by simp [Op.operands])
  subst hj; subst ho
  have hi2 : (0 : Int) ≤ (i : Int) ∧ (i : Int) < (n : Int) := by omega
  have hadd : (⟨g0, 0, none⟩ : Addr).add (i * sz) = ⟨g0, i * sz, none⟩ := by rw [add_none]; simp
  simp [execOp, e1, e2, Instr.indexAt, asIntOf, run_und hT, run_szOf hz, hi, hadd]
theorem tail_storeA {Q : Exit → Act → World → Prop} {r : List Oper} {a : Act} {W : World} {T : TypeId} {E : TypeId} {x y : Operand} {g0 n cap o sz i lo : Nat} {v : Value} {X : BSet} {ds : List D} {dd : D}
    (hx : a.eval x = .pointer (some ⟨g0, o, none⟩)) (hy : a.eval y = v) (hz : szOf P T = some sz) (hA : Arr W lo E sz X ds (.slice (some ⟨g0, 0, none⟩) n cap) (some g0)) (hi : i < ds.length) (ho : i * sz = o) (hX : ∀ b o, X b o → b ≠ g0)
    (hv : Rd W X dd v) (hw : width dd = sz)
    (h : ∀ W', Keeps (fun k => k ≠ g0) W W' → Arr W' lo E sz X (ds.set i dd) (.slice (some ⟨g0, 0, none⟩) n cap) (some g0) → runTail P ops Q r a W') :
    runTail P ops Q (⟨none, .store T x y, ty, pos, af, none⟩ :: r) a W := by
  obtain ⟨c, hc, rfl⟩ := hv
  have hcl : c.length = sz := (rdc_width _ _ hc).trans hw
  have hcells : (asm dd c).cells = c.toArray := cells_asm hc
  obtain ⟨h1, cs, ⟨hlen, hown⟩, hrow⟩ := hA
  rcases hown with ⟨h0, _⟩ | ⟨g, cap', cur, hs, hlo, hg, hnc, hcm, hcs, htake⟩
  · cases h0
  simp at hs
  obtain ⟨rfl, rfl, rfl⟩ := hs
  subst ho
  have hfit : i * sz + sz ≤ ds.length * sz := by rw [← Nat.succ_mul]; exact Nat.mul_le_mul_right _ hi
  have hcur : ds.length * sz ≤ cur.size := by rw [hcs]; exact Nat.mul_le_mul_right _ hnc
  have ho : Own W g0 cur.toList E := by unfold Own; simpa using hg
  refine tail_store (b := g0) (o := i * sz) (v := asm dd c) hx hy hz (by rw [hcells]; simpa using hcl) ho (by simp; omega) (by rw [hcells]; simpa using rdc_one dd c hc) fun W' hk ho' => h W' hk ?_
  rw [hcells] at ho'
  have hlen' : (splice cur.toList (i * sz) c).length = cur.size := by simp [splice]; omega
  have hsp : (splice cur.toList (i * sz) c).take (ds.length * sz) = splice cs (i * sz) c := by
    rw [← htake]
    unfold splice
    rw [List.take_append, List.take_append]
    simp only [List.length_append, List.length_take, Array.length_toList, List.take_take]
    rw [Nat.min_eq_left (by omega : i * sz ≤ cur.size), Nat.min_eq_right (by omega : i * sz ≤ ds.length * sz)]
    rw [show min (i * sz) (ds.length * sz) = i * sz by omega]
    rw [List.take_of_length_le (by omega : c.length ≤ ds.length * sz - i * sz), List.drop_take]
  refine ⟨rfl, splice cs (i * sz) c, ⟨?_, .inr ⟨g0, cap, (splice cur.toList (i * sz) c).toArray, by simp, hlo, by unfold Own at ho'; simpa using ho', by simpa using hnc, hcm, by simp [hlen', hcs], by simpa using hsp⟩⟩, ?_⟩
  · rw [← hsp]; simp [hlen']; omega
  · exact RowIs.set hcl (hc.keeps hk hX) i hi (hrow.move hk.size fun b hb hlt => ⟨hk.block b hlt (hX b _ hb), by rw [hk.block b hlt (hX b _ hb)]; exact hb⟩)
end
theorem rdC_zV (W : World) (X : BSet) : RdC W X (V.d V.zero) [.int .u8 0, .int .i64 0, .string ⟨#[]⟩, .slice none 0 0, .slice none 0 0] := by
  rw [V.d_eq]; simp only [RdC]; exact zV W X
end Go.Eng
namespace Go.Eng
theorem u8_in {n : Int} (h : 0 ≤ n ∧ n < 256) : IntKind.u8.wrap n = n := by
  simp only [IntKind.wrap, IntKind.signed, IntKind.bits]
  simp
  omega
abbrev As := List (ByteArray × Int)
def mget : As → ByteArray → Int
  | [], _ => 0
  | (s, n) :: r, k => if k = s then n else mget r k
def mset : As → ByteArray → Int → As
  | [], k, n => [(k, n)]
  | (s, m) :: r, k, n => if k = s then (s, n) :: r else (s, m) :: mset r k n
def midx : As → ByteArray → Option (Nat × Int)
  | [], _ => none
  | (s, n) :: r, k => if k = s then some (0, n) else (midx r k).map fun q => (q.1 + 1, q.2)
theorem mget_set (A : As) (k j : ByteArray) (n : Int) : mget (mset A k n) j = if j = k then n else mget A j := by
  induction A with
  | nil => simp only [mset, mget]
  | cons q A ih =>
    obtain ⟨s, m⟩ := q
    simp only [mset]
    by_cases h : k = s
    · subst h
      rw [if_pos rfl]
      simp only [mget]
      by_cases hj : j = k <;> simp [hj]
    · rw [if_neg h]
      simp only [mget, ih]
      by_cases hj : j = s
      · subst hj
        have : ¬ j = k := fun e => h e.symm
        simp [this]
      · simp [hj]
theorem midx_get (A : As) (k : ByteArray) : mget A k = match midx A k with | none => 0 | some q => q.2 := by
  induction A with
  | nil => rfl
  | cons q A ih =>
    obtain ⟨s, m⟩ := q
    simp only [mget, midx]
    by_cases h : k = s
    · simp [h]
    · simp only [h, if_false, ih]
      cases midx A k <;> rfl
theorem rdC_z8 (W : World) (X : BSet) : RdC W X (D.int .u8 0) [.int .u8 0] := by simp only [RdC]
theorem rd_int {W : World} {X : BSet} {k : IntKind} {n : Int} : Rd W X (.int k n) (.int k n) := ⟨[.int k n], by simp only [RdC], rfl⟩
theorem rdB_out {W : World} {S : BSet} {v : Value} {l : List Int} (h : Rd W S (bytesD l) v) : ∃ ad cap, v = .slice ad l.length cap ∧ Rd W S (bytesD l) (.slice ad l.length cap) := by
  have h' := h
  obtain ⟨cs, h1, h2⟩ := h
  simp only [bytesD, RdC] at h1
  obtain ⟨ad, cap, rfl, _⟩ := h1
  have e : v = .slice ad l.length cap := by rw [h2]; simp [asm, bytesD]
  exact ⟨ad, cap, e, e ▸ h'⟩
def MapIs (es : List MapEntry) (A : As) : Prop := es.map (fun e => (e.key, e.val)) = A.map fun q => (Value.string q.1, Value.int .i64 q.2)
def OwnM (W : World) (b : Nat) (A : As) : Prop := ∃ es clock, W.heap[b]? = some (.map es clock) ∧ MapIs es.toList A
theorem OwnM.lt {W : World} {b : Nat} {A : As} (h : OwnM W b A) : b < W.heap.size := by
  obtain ⟨_, _, h, _⟩ := h; exact (Array.getElem?_eq_some_iff.1 h).1
theorem OwnM.keeps {W W' : World} {b : Nat} {A : As} {S : Nat → Prop} (h : OwnM W b A) (k : Keeps S W W') (hs : S b) : OwnM W' b A := by
  obtain ⟨es, c, h1, h2⟩ := h
  exact ⟨es, c, (k.block b (Array.getElem?_eq_some_iff.1 h1).1 hs).trans h1, h2⟩
theorem OwnM.ext {W W' : World} {b : Nat} {A : As} (h : OwnM W b A) (k : Ext W W') : OwnM W' b A := h.keeps k trivial
theorem ownM_store {W W' : World} {b b' : Nat} {A : As} (h : OwnM W b' A) (k : Keeps (fun x => x ≠ b) W W') (hne : b' ≠ b) : OwnM W' b' A := h.keeps k hne
theorem find_now (k : ByteArray) : ∀ (es : List MapEntry) (A : As) (i : Nat), MapIs es A → Instr.findNow .string (.string k) es i = some ((midx A k).map fun q => (i + q.1, .int .i64 q.2))
  | [], A, i, h => by
    have : A = [] := by simpa [MapIs] using h
    subst this; rfl
  | e :: es, [], i, h => by simp [MapIs] at h
  | e :: es, (s, n) :: A, i, h => by
    simp only [MapIs, List.map_cons, List.cons.injEq, Prod.mk.injEq] at h
    obtain ⟨⟨h1, h2⟩, h3⟩ := h
    unfold Instr.findNow
    simp only [h1, Instr.sameNow, midx]
    by_cases hk : k = s
    · subst hk
      have hb : (k == k) = true := (MapKept.bytes_beq k k).2 rfl
      simp [hb, h2]
    · have hb : (k == s) = false := by
        cases hq : (k == s) with
        | false => rfl
        | true => exact absurd ((MapKept.bytes_beq k s).1 hq) hk
      simp only [hb, hk, if_false]
      rw [find_now k es A (i + 1) h3]
      cases midx A k with
      | none => rfl
      | some q => simp; omega
theorem midx_at (k : ByteArray) : ∀ (A : As) (j : Nat) (n : Int), midx A k = some (j, n) → ∃ h : j < A.length, A[j] = (k, n) ∧ mset A k = fun m => A.set j (k, m)
  | [], j, n, h => by cases h
  | (s, m) :: A, j, n, h => by
    simp only [midx] at h
    by_cases hk : k = s
    · subst hk
      simp at h
      obtain ⟨rfl, rfl⟩ := h
      exact ⟨by simp, rfl, by funext q; simp [mset]⟩
    · rw [if_neg hk] at h
      cases hq : midx A k with
      | none => rw [hq] at h; cases h
      | some q =>
        rw [hq] at h
        simp at h
        obtain ⟨rfl, rfl⟩ := h
        obtain ⟨h1, h2, h3⟩ := midx_at k A q.1 q.2 (by rw [hq])
        refine ⟨by simpa using h1, by simpa using h2, ?_⟩
        funext x
        simp [mset, hk, h3]
theorem midx_none (k : ByteArray) : ∀ A : As, midx A k = none → ∀ n, mset A k n = A ++ [(k, n)]
  | [], _, n => rfl
  | (s, m) :: A, h, n => by
    simp only [midx] at h
    by_cases hk : k = s
    · rw [if_pos hk] at h; cases h
    · rw [if_neg hk] at h
      simp only [mset, hk, if_false, List.cons_append]
      rw [midx_none k A (by cases hq : midx A k with | none => rfl | some q => rw [hq] at h; cases h) n]
section
variable {P : Program} {ops : Array Oper} {S : Nat → Prop} {w0 : World} {a0 : Act} {Γ : Ctx}
variable {d : Option Tmp} {ty : TypeId} {pos : String} {af : Array Edge} {gd : Option (Nat × Bool)}
variable {K : List Oper → Ctx → (World → Prop) → List Bool → Prop} {l : List Oper} {Ψ Ψ' : World → Prop} {ms : List Bool} {fl : Bool}
theorem run_lookupM {W : World} {b : Nat} {A : As} {T kt et : TypeId} {k : ByteArray} (hT : P.underlying T = some (.map kt et)) (hk : P.underlying kt = some .string) (hz : zeroOf P et = some (.int .i64 0)) (h : OwnM W b A) :
    (Instr.lookup T (.map (some b)) (.string k) false).run P W = .ok (.int .i64 (mget A k)) W := by
  obtain ⟨es, c, h1, h2⟩ := h
  have hf := find_now k es.toList A 0 h2
  have hck := MapKept.run_checkKey (P := P) (w := W) (kt := kt) (d := .string) (k := .string k) hk trivial es.isEmpty 9999
  have hfk := MapKept.run_findKey (P := P) (w := W) hk hf
  have hzz : (zeroValue et).run P W = .ok (.int .i64 0) W := by
    unfold zeroOf at hz
    cases hi : P.info? et with
    | none => rw [hi] at hz; cases hz
    | some i => rw [hi] at hz; simp at hz; simp [zeroValue, typeInfo, program, Sem.run, hi, hz]
  have hg : (getObj b).run P W = .ok (.map es c) W := by simp [getObj, Sem.run, h1]
  rw [midx_get]
  simp only [Instr.lookup, Sem.run_bind, run_und hT, Result.andThen_ok, hg, Sem.run_pure, hck, hfk]
  cases midx A k with
  | none => simp [hzz]
  | some q => simp
theorem sp_lookup {x y : Operand} {b : Nat} {A : As} {T kt et : TypeId} {k : ByteArray} (hT : P.underlying T = some (.map kt et)) (hk : P.underlying kt = some .string) (hz : zeroOf P et = some (.int .i64 0)) (hx : Has S w0 a0 Γ x (Is (.map (some b)))) (hy : Has S w0 a0 Γ y (Is (.string k))) (h : OwnM w0 b A) (hS : S b) :
    Spec P ops S w0 a0 Γ ⟨d, .lookup T x y false, ty, pos, af, gd⟩ (Is (.int .i64 (mget A k))) := sp_val fun a g W hk' hg he => by
  have e1 : a.eval x = .map (some b) := hx.of_env hk' hg he (by simp [Op.operands])
  have e2 : a.eval y = .string k := hy.of_env hk' hg he (by simp [Op.operands])
  simp [execOp, e1, e2, run_lookupM hT hk hz (h.keeps hk' hS)]
def IsMap (A : As) (t : Nat) : Fact := fun g u W => ∃ b, u = .map (some b) ∧ (t, b) ∈ g ∧ OwnM W b A
theorem st_map {A : As} {t : Nat} : Stable All (IsMap A t) :=
  ⟨fun _ _ _ _ k ⟨b, h1, h2, h3⟩ => ⟨b, h1, h2, h3.ext k⟩, fun _ _ _ _ _ _ ⟨b, h1, h2, h3⟩ => ⟨b, h1, List.mem_cons_of_mem _ h2, h3⟩⟩
theorem Chain.mkMap {t : Nat} {T : TypeId} (h : Chain P ops All w0 a0 K fl l ((some t, IsMap [] t) :: Γ) Ψ (false :: ms)) :
    Chain P ops All w0 a0 K fl (⟨some t, .makeMap T none, ty, pos, af, none⟩ :: l) Γ Ψ ms := by
  refine .box _ t st_map rfl (fun a g W hk hg he => ?_) h
  have hw : Region.wanted (⟨some t, .makeMap T none, ty, pos, af, none⟩ : Oper) (yielded ops a.tmps) = true := rfl
  unfold ObRun; rw [if_pos hw]
  unfold OpRuns
  have : (execOp a.eval ⟨some t, .makeMap T none, ty, pos, af, none⟩).run P W = .ok (.value (.map (some W.heap.size))) (W.alloc (.map #[] 0)) := by
    simp [execOp, Instr.makeMap, newObj, Sem.run]
  rw [this]
  exact ⟨ext_alloc _ _, by simp, W.heap.size, rfl, List.mem_cons_self, #[], 0, by show (W.heap.push _)[W.heap.size]? = _; simp, rfl⟩
theorem run_updM {W : World} {b : Nat} {A : As} {T kt et : TypeId} {k : ByteArray} {n : Int} (hT : P.underlying T = some (.map kt et)) (hk : P.underlying kt = some .string) (h : OwnM W b A) :
    ∃ W', (Instr.mapUpdate T (.map (some b)) (.string k) (.int .i64 n)).run P W = .ok () W' ∧ Keeps (fun x => x ≠ b) W W' ∧ OwnM W' b (mset A k n) := by
  obtain ⟨es, c, h1, h2⟩ := h
  have hf := find_now k es.toList A 0 h2
  have hck := MapKept.run_checkKey (P := P) (w := W) (kt := kt) (d := .string) (k := .string k) hk trivial false 9999
  have hfk := MapKept.run_findKey (P := P) (w := W) hk hf
  have hg : (getObj b).run P W = .ok (.map es c) W := by simp [getObj, Sem.run, h1]
  have keeps : ∀ o, Keeps (fun x => x ≠ b) W { W with heap := W.heap.setIfInBounds b o } := fun o => ⟨rfl, rfl, rfl, by simp, fun x _ hx => (MapKept.heap_set h1).2 x hx⟩
  cases hm : midx A k with
  | none =>
    rw [hm] at hfk
    refine ⟨_, ?_, keeps (.map (es.push { key := .string k, val := .int .i64 n, born := c }) (c + 1)), _, _, (MapKept.heap_set h1).1, ?_⟩
    · simp only [Instr.mapUpdate, Sem.run_bind, run_und hT, Result.andThen_ok, hg, hck, hfk, Option.map_none]
      exact MapKept.run_setObj_map _ h1
    · rw [midx_none k A hm]
      simp only [MapIs, Array.toList_push, List.map_append, List.map_cons, List.map_nil]
      rw [h2]
  | some q =>
    rw [hm] at hfk
    obtain ⟨hj, hA, hset⟩ := midx_at k A q.1 q.2 hm
    have hlen : es.size = A.length := by have := congrArg List.length h2; simpa using this
    have hje : q.1 < es.size := by omega
    have hkey : (es[q.1]'hje).key = .string k := by
      have h3 : (es.toList.map (fun e => (e.key, e.val)))[q.1]? = (A.map fun q => (Value.string q.1, Value.int .i64 q.2))[q.1]? := congrArg (·[q.1]?) h2
      simp [hje, hj, hA] at h3
      exact h3.1
    refine ⟨_, ?_, keeps (.map (es.modify q.1 fun e => { e with key := .string k, val := .int .i64 n }) c), _, _, (MapKept.heap_set h1).1, ?_⟩
    · simp only [Instr.mapUpdate, Sem.run_bind, run_und hT, Result.andThen_ok, hg, hck, hfk, Option.map_some, Nat.zero_add]
      have hst : (Instr.keyThatStays (((es[q.1]?).map (·.key)).getD (.string k)) (.string k)).run P W = .ok (.string k) W := by
        have hb : (k == k) = true := (MapKept.bytes_beq k k).2 rfl
        simp [hje, hkey, Instr.keyThatStays, Instr.sameBits, hb]
      rw [hst]
      simp only [Result.andThen_ok]
      exact MapKept.run_setObj_map _ h1
    · rw [hset]
      simp only [MapIs]
      apply List.ext_getElem?
      intro i
      have h3 : (es.toList.map (fun e => (e.key, e.val)))[i]? = (A.map fun q => (Value.string q.1, Value.int .i64 q.2))[i]? := congrArg (·[i]?) h2
      by_cases hi : q.1 = i
      · subst hi
        simp [Array.getElem?_modify, hje, hj]
      · simp only [List.getElem?_map, Array.getElem?_toList, Array.getElem?_modify, hi, if_false, List.getElem?_set_ne hi] at h3 ⊢
        exact h3
theorem tail_updM {Q : Exit → Act → World → Prop} {r : List Oper} {a : Act} {W : World} {T kt et : TypeId} {x y z : Operand} {b : Nat} {A : As} {k : ByteArray} {n : Int}
    (hT : P.underlying T = some (.map kt et)) (hk : P.underlying kt = some .string) (hx : a.eval x = .map (some b)) (hy : a.eval y = .string k) (hz : a.eval z = .int .i64 n) (ho : OwnM W b A)
    (h : ∀ W', Keeps (fun k => k ≠ b) W W' → OwnM W' b (mset A k n) → runTail P ops Q r a W') : runTail P ops Q (⟨none, .mapUpdate T x y z, ty, pos, af, none⟩ :: r) a W := by
  obtain ⟨W', h1, h2, h3⟩ := run_updM (n := n) (k := k) hT hk ho
  have hw : Region.wanted (⟨none, .mapUpdate T x y z, ty, pos, af, none⟩ : Oper) (yielded ops a.tmps) = true := rfl
  unfold runTail ObRun; rw [if_pos hw]
  unfold OpRuns
  have : (execOp a.eval ⟨none, .mapUpdate T x y z, ty, pos, af, none⟩).run P W = .ok .skip W' := by simp [execOp, hx, hy, hz, h1]
  rw [this]
  exact h W' h2 h3
theorem sp_indexStr {x y : Operand} {T : TypeId} {s : ByteArray} {j : Int} {i : Nat} (hT : P.underlying T = some .string) (hx : Has S w0 a0 Γ x (Is (.string s))) (hy : Has S w0 a0 Γ y (Is (.int .i64 j))) (hj : j = i) (hi : i < s.size) :
    Spec P ops S w0 a0 Γ ⟨d, .index T x y, ty, pos, af, gd⟩ (Is (.int .u8 ((s[i]'hi).toNat : Nat))) := sp_val fun a g W hk hg he => by
  have e1 : a.eval x = .string s := hx.of_env hk hg he (by simp [Op.operands])
  have e2 : a.eval y = .int .i64 j := hy.of_env hk hg he (by simp [Op.operands])
  subst hj
  have hs : s[(i : Int).toNat]? = some (s[i]'hi) := by simp [hi]
  have h0 : (0 : Int) ≤ (i : Int) := by omega
  simp [execOp, e1, e2, Instr.index, asIntOf, run_und hT, h0, hi]
theorem sp_sAdd {x y : Operand} {T T' : TypeId} {s t : ByteArray} (hx : Has S w0 a0 Γ x (Is (.string s))) (hy : Has S w0 a0 Γ y (Is (.string t))) (h : s.size + t.size ≤ 9223372036854775807) : Spec P ops S w0 a0 Γ ⟨d, .binOp .add T x y T', ty, pos, af, gd⟩ (Is (.string (s ++ t))) := sp_val fun a g W hk hg he => by
  have e1 : a.eval x = .string s := hx.of_env hk hg he (by simp [Op.operands])
  have e2 : a.eval y = .string t := hy.of_env hk hg he (by simp [Op.operands])
  have h' : ¬ ((s.size + t.size : Nat) : Int) > IntKind.i64.max := by
    have : IntKind.i64.max = 9223372036854775807 := by decide
    rw [this]; omega
  simp only [execOp, e1, e2, binOp, eqGuard, Op.stringOp]
  simp
  omega
end
end Go.Eng
namespace Go.Eng
structure Au where
  th : Int
  ids : List ByteArray
def Au.d (a : Au) : D := .agg [.int .i64 a.th, strsD a.ids]
def ausD (l : List Au) : D := .lst 2 (l.map Au.d)
structure Mb where
  nm : ByteArray
  v : V
def Mb.d (a : Mb) : D := .agg [.str a.nm, a.v.d]
def mbsD (l : List Mb) : D := .lst 6 (l.map Mb.d)
structure Hs where
  al : ByteArray
  hx : ByteArray
def Hs.d (a : Hs) : D := .agg [.str a.al, .str a.hx]
def hssD (l : List Hs) : D := .lst 2 (l.map Hs.d)
structure Rc where
  ln : Int
  hs : List Hs
  cu : V
def Rc.d (a : Rc) : D := .agg [.int .i64 a.ln, hssD a.hs, a.cu.d]
section
variable {W : World} {S : BSet} {v : Value}
theorem rdL_out {sz : Nat} {ds : List D} {n : Nat} (hn : ds.length = n) (h : Rd W S (.lst sz ds) v) : ∃ ad cap, v = .slice ad n cap ∧ Rd W S (.lst sz ds) (.slice ad n cap) := by
  have h' := h
  obtain ⟨cs, h1, h2⟩ := h
  simp only [RdC] at h1
  obtain ⟨ad, cap, rfl, _⟩ := h1
  have e : v = .slice ad n cap := by rw [h2, hn]; rfl
  exact ⟨ad, cap, e, e ▸ h'⟩
theorem rdAus_out {l : List Au} (h : Rd W S (ausD l) v) : ∃ ad cap, v = .slice ad l.length cap ∧ Rd W S (ausD l) (.slice ad l.length cap) := rdL_out (by simp) h
theorem rdMbs_out {l : List Mb} (h : Rd W S (mbsD l) v) : ∃ ad cap, v = .slice ad l.length cap ∧ Rd W S (mbsD l) (.slice ad l.length cap) := rdL_out (by simp) h
theorem rdAu_out {a : Au} (h : Rd W S a.d v) : ∃ a1 c1, v = .agg #[.int .i64 a.th, .slice a1 a.ids.length c1] ∧ Rd W S (strsD a.ids) (.slice a1 a.ids.length c1) := by
  obtain ⟨cs, h1, rfl⟩ := h
  simp only [Au.d, RdC, RdF] at h1
  obtain ⟨_, _, rfl, rfl, c2, _, rfl, h2, rfl⟩ := h1
  obtain ⟨c, rfl⟩ : ∃ c, c2 = [c] := by simp only [strsD, RdC] at h2; obtain ⟨a, cap, e, _⟩ := h2; exact ⟨_, e⟩
  obtain ⟨a1, c1, e1, h3⟩ := rdS_out (rd_one1 h2 rfl)
  subst e1
  exact ⟨a1, c1, rfl, h3⟩
theorem rdAu_mk {th : Int} {ids : List ByteArray} {c : Value} (h : Rd W S (strsD ids) c) : Rd W S (Au.d ⟨th, ids⟩) (.agg #[.int .i64 th, c]) :=
  ⟨[.int .i64 th, c], by simp only [Au.d, RdC, RdF]; exact ⟨[_], _, rfl, rfl, [c], [], rfl, rdc_one1 h rfl, rfl⟩, rfl⟩
theorem vcells {x : V} {cs : List Value} (h : RdC W S x.d cs) : ∃ a1 c1 a2 c2, cs = [.int .u8 x.k, .int .i64 x.n, .string x.t, .slice a1 x.ns.length c1, .slice a2 x.xs.length c2] ∧ x.t.size ≤ maxLen ∧ Rd W S (strsD x.ns) (.slice a1 x.ns.length c1) ∧ Rd W S (valsD x.xs) (.slice a2 x.xs.length c2) := by
  obtain ⟨a1, c1, a2, c2, e, h1, h2, h3⟩ := rdV_out (⟨cs, h, rfl⟩ : Rd W S x.d (asm x.d cs))
  refine ⟨a1, c1, a2, c2, ?_, h1, h2, h3⟩
  rw [V.d_eq] at e
  simp only [asm, Value.agg.injEq] at e
  have := congrArg Array.toList e
  simpa using this
theorem rdcV {x : V} {cs : Array Value} (h : Rd W S x.d (.agg cs)) : RdC W S x.d cs.toList := by
  obtain ⟨c, h1, e⟩ := h
  rw [V.d_eq] at e
  simp only [asm, Value.agg.injEq] at e
  subst e; simpa using h1
theorem rdMb_out {a : Mb} (h : Rd W S a.d v) : ∃ a1 c1 a2 c2, v = .agg #[.string a.nm, .int .u8 a.v.k, .int .i64 a.v.n, .string a.v.t, .slice a1 a.v.ns.length c1, .slice a2 a.v.xs.length c2] ∧ a.nm.size ≤ maxLen ∧ a.v.t.size ≤ maxLen ∧ Rd W S (strsD a.v.ns) (.slice a1 a.v.ns.length c1) ∧ Rd W S (valsD a.v.xs) (.slice a2 a.v.xs.length c2) := by
  obtain ⟨cs, h1, rfl⟩ := h
  simp only [Mb.d, RdC, RdF] at h1
  obtain ⟨_, _, rfl, ⟨rfl, h2⟩, c2, _, rfl, h3, rfl⟩ := h1
  obtain ⟨a1, c1, a2, c2', rfl, h4, h5, h6⟩ := vcells h3
  exact ⟨a1, c1, a2, c2', rfl, h2, h4, h5, h6⟩
theorem rdMb_mk {nm : ByteArray} {x : V} {c1 c2 c3 c4 c5 : Value} (h : nm.size ≤ maxLen) (hv : Rd W S x.d (.agg #[c1, c2, c3, c4, c5])) : Rd W S (Mb.d ⟨nm, x⟩) (.agg #[.string nm, c1, c2, c3, c4, c5]) :=
  ⟨[.string nm, c1, c2, c3, c4, c5], by simp only [Mb.d, RdC, RdF]; exact ⟨[_], _, rfl, ⟨rfl, h⟩, [c1, c2, c3, c4, c5], [], rfl, rdcV hv, rfl⟩, rfl⟩
theorem width_Au (a : Au) : width a.d = 2 := rfl
theorem width_Mb (a : Mb) : width a.d = 6 := by simp [Mb.d, width, widths, width_V]
end
theorem zAu (W : World) (X : BSet) : RdF W X [.int .i64 0, strsD []] [.int .i64 0, .slice none 0 0] := ⟨[_], _, rfl, rfl, [_], _, rfl, rdc_one1 (rd_nil _) rfl, rfl⟩
theorem zMb (W : World) (X : BSet) : RdF W X [.str ⟨#[]⟩, V.d V.zero] [.string ⟨#[]⟩, .int .u8 0, .int .i64 0, .string ⟨#[]⟩, .slice none 0 0, .slice none 0 0] := ⟨[_], _, rfl, ⟨rfl, by decide⟩, _, [], rfl, rdC_zV W X, rfl⟩
section
variable {P : Program} {ops : Array Oper} {S : Nat → Prop} {w0 : World} {a0 : Act} {Γ : Ctx}
variable {d : Option Tmp} {ty : TypeId} {pos : String} {af : Array Edge} {gd : Option (Nat × Bool)}
theorem sp_indexL {α : Type} {x y : Operand} {T E : TypeId} {S' : BSet} {sz : Nat} {f : α → D} {xs : List α} {i : Nat} {j : Int} (hx : Has S w0 a0 Γ x (IsD S' (.lst sz (xs.map f)))) (hy : Has S w0 a0 Γ y (Is (.int .i64 j))) (hT : P.underlying T = some (.slice E)) (hz : szOf P E = some sz)
    (hj : j = i) (hi : i < xs.length) : Spec P ops S w0 a0 Γ ⟨d, .indexAddr T x y, ty, pos, af, gd⟩ (IsR S' (f xs[i])) := by
  subst hj
  have := sp_indexD (ty := ty) (pos := pos) (af := af) (gd := gd) (d := d) (ops := ops) hx hy hT hz (i := i) (by simpa using hi)
  simpa using this
theorem sp_lenL {α : Type} {x : Operand} {T E : TypeId} {S' : BSet} {sz : Nat} {f : α → D} {xs : List α} (hT : P.underlying T = some (.slice E)) (hx : Has S w0 a0 Γ x (IsD S' (.lst sz (xs.map f)))) :
    Spec P ops S w0 a0 Γ ⟨d, .call ⟨.builtin .len, #[x], #[T]⟩, ty, pos, af, gd⟩ (Is (.int .i64 xs.length)) := by
  have := sp_lenD (ops := ops) (d := d) (ty := ty) (pos := pos) (af := af) (gd := gd) hT hx
  simpa using this
end
end Go.Eng
namespace Go.Eng
theorem run_sameAddr_any {P : Program} {W : World} {a b : Addr} {ca cb : Array Value} {ta tb : TypeId} {fa fb : Nat × Nat} (ha : W.heap[a.block]? = some (.cells ca ta fa)) (hb : W.heap[b.block]? = some (.cells cb tb fb)) (hf : W.frozen? a = false) :
    ∃ r W', (sameAddr a b).run P W = .ok r W' ∧ Ext W W' := by
  by_cases hbl : a.block = b.block
  · exact ⟨a == b, W, by simp [sameAddr, hbl], .refl _ _⟩
  · by_cases hq : (mayBeOne a b).run P W = .ok true W
    · by_cases hfo : (Question.extern "sameAddr.stringBytes" 2).forced = true
      · exact ⟨false, W, by simp [sameAddr, hbl, hf, noView, viewAt, World.shape?, ha, hb, hq, hfo], .refl _ _⟩
      · exact ⟨_, W.drew, by simp [sameAddr, hbl, hf, noView, viewAt, World.shape?, ha, hb, hq, hfo]; rfl, .drew _⟩
    · refine ⟨false, W, ?_, .refl _ _⟩
      have hq2 : (mayBeOne a b).run P W = .ok false W := by
        have : ∃ q, (mayBeOne a b).run P W = .ok q W := by
          cases hs : W.frozen? b <;> simp [mayBeOne, stringish, hf, hs, World.shape?, ha, hb]
        obtain ⟨q, h3⟩ := this
        cases q with
        | true => exact absurd h3 hq
        | false => exact h3
      simp [sameAddr, hbl, hf, noView, viewAt, World.shape?, ha, hb, hq2]
def NV (u : World) : Nat → Value → Prop
  | 0, _ => True
  | n + 1, v => ∀ a len cap, v = .slice (some a) len cap → ∀ i, i < len → (a.block < u.heap.size ∧ u.frozen? ⟨a.block, a.off + i * 5, none⟩ = false ∧ ∀ c, u.cell? ⟨a.block, a.off + i * 5 + 4, none⟩ = some c → NV u n c)
def AV (u : World) (v : Value) : Prop := ∀ n, NV u n v
def QV (u : World) (b o : Nat) : Prop := b < u.heap.size ∧ u.frozen? ⟨b, o, none⟩ = false ∧ ∀ c, u.cell? ⟨b, o + 4, none⟩ = some c → AV u c
theorem AV.idx {u : World} {a : Addr} {len cap i : Nat} (h : AV u (.slice (some a) len cap)) (hi : i < len) : QV u a.block (a.off + i * 5) :=
  ⟨(h 1 a len cap rfl i hi).1, (h 1 a len cap rfl i hi).2.1, fun c hc n => (h (n + 1) a len cap rfl i hi).2.2 c hc⟩
def Pin (u : World) (S : BSet) : Prop := ∀ b o, S b o → b < u.heap.size → o = u.heap[b]?
theorem cell_pin {u W : World} {S : BSet} (hp : Pin u S) {b o : Nat} (hb : S b W.heap[b]?) (hl : b < u.heap.size) : W.cell? ⟨b, o, none⟩ = u.cell? ⟨b, o, none⟩ := by
  have := hp b _ hb hl
  unfold World.cell?
  simp only [this]
theorem frozen_pin {u W : World} {S : BSet} (hp : Pin u S) {b o : Nat} (hb : S b W.heap[b]?) (hl : b < u.heap.size) : W.frozen? ⟨b, o, none⟩ = u.frozen? ⟨b, o, none⟩ := by
  have := hp b _ hb hl
  unfold World.frozen?
  simp only [this]
section
variable {P : Program} {ops : Array Oper} {S : Nat → Prop} {w0 : World} {a0 : Act} {Γ : Ctx}
variable {d : Option Tmp} {ty : TypeId} {pos : String} {af : Array Edge} {gd : Option (Nat × Bool)}
theorem sp_indexP {x y : Operand} {T E : TypeId} {b o n cap i : Nat} (hx : Has S w0 a0 Γ x (Is (.slice (some ⟨b, o, none⟩) n cap))) (hy : Has S w0 a0 Γ y (Is (.int .i64 i))) (hT : P.underlying T = some (.slice E)) (hz : szOf P E = some 5)
    (hi : i < n) : Spec P ops S w0 a0 Γ ⟨d, .indexAddr T x y, ty, pos, af, gd⟩ (Is (.pointer (some ⟨b, o + i * 5, none⟩))) := sp_val fun a g W hk hg he => by
  have e1 : a.eval x = .slice (some ⟨b, o, none⟩) n cap := hx.of_env hk hg he (by simp [Op.operands])
  have e2 : a.eval y = .int .i64 i := hy.of_env hk hg he (by simp [Op.operands])
  simp [execOp, e1, e2, Instr.indexAt, asIntOf, run_und hT, hi, run_szOf hz, add_none]
theorem sp_loadP {x : Operand} {T : TypeId} {b o : Nat} {u : Value} (hx : Has All w0 a0 Γ x (Is (.pointer (some ⟨b, o, none⟩)))) (hT : aggB P T = some false) (hz : szOf P T = some 1) (hc : w0.cell? ⟨b, o, none⟩ = some u) (hb : b < w0.heap.size) (hu : oneC u = true) :
    Spec P ops All w0 a0 Γ ⟨d, .load T x, ty, pos, af, gd⟩ (Is u) := fun a g W hk hg he => by
  have e1 : a.eval x = .pointer (some ⟨b, o, none⟩) := hx.of_env hk hg he (by simp [Op.operands])
  have hcW : CellsAt W b o [u] := fun i hi => by
    have : i = 0 := by simpa using hi
    subst this
    show W.cell? ⟨b, o, none⟩ = some u
    rw [← hc]; unfold World.cell?; simp only [hk.block b hb trivial]
  have hr := run_loadVar (P := P) hcW hT hz rfl (fun _ => rfl)
  unfold OpRuns
  have : (execOp a.eval ⟨d, .load T x, ty, pos, af, gd⟩).run P W = .ok (.value u) W := by
    simp only [execOp, e1, Instr.loadAt, Instr.sureAddr, Sem.run_bind, Sem.run_pure, Result.andThen_ok, hr]
    rfl
  rw [this]
  exact ⟨.refl _ _, rfl⟩
def Abv (W : World) (q : Value) : Prop := q = .pointer none ∨ ∃ b o c T f, q = .pointer (some ⟨b, o, none⟩) ∧ W.heap[b]? = some (.cells c T f)
theorem Abv.ext {W W' : World} {q : Value} (h : Abv W q) (k : Ext W W') : Abv W' q := by
  rcases h with h | ⟨b, o, c, T, f, h1, h2⟩
  · exact .inl h
  · exact .inr ⟨b, o, c, T, f, h1, by rw [k.block b (Array.getElem?_eq_some_iff.1 h2).1 trivial]; exact h2⟩
theorem sp_ptrEqN {x y : Operand} {T T' E : TypeId} {n b o : Nat} {q : Value} {c : Array Value} {tc : TypeId} {fc : Nat × Nat} (hT : P.underlying T = some (.pointer E)) (hz : szOf P E = some (n + 1)) (hx : Has All w0 a0 Γ x (Is (.pointer (some ⟨b, o, none⟩)))) (hy : Has All w0 a0 Γ y (Is q))
    (hc : w0.heap[b]? = some (.cells c tc fc)) (hf : w0.frozen? ⟨b, o, none⟩ = false) (hq : Abv w0 q) :
    Spec P ops All w0 a0 Γ ⟨d, .binOp .eql T x y T', ty, pos, af, gd⟩ (fun _ v _ => ∃ r, v = .bool r ∧ (q = .pointer none → r = false)) := fun a g W hk hg he => by
  have e1 : a.eval x = .pointer (some ⟨b, o, none⟩) := hx.of_env hk hg he (by simp [Op.operands])
  have e2 : a.eval y = q := hy.of_env hk hg he (by simp [Op.operands])
  have hbl := (Array.getElem?_eq_some_iff.1 hc).1
  have hc' : W.heap[b]? = some (.cells c tc fc) := by rw [hk.block b hbl trivial]; exact hc
  have hf' : W.frozen? ⟨b, o, none⟩ = false := by rw [← hf]; unfold World.frozen?; simp only [hk.block b hbl trivial]
  unfold OpRuns
  rcases hq.ext hk with rfl | ⟨b2, o2, c2, T2, f2, rfl, h2⟩
  · have : (execOp a.eval ⟨d, .binOp .eql T x y T', ty, pos, af, gd⟩).run P W = .ok (.value (.bool false)) W := by
      simp [execOp, e1, e2, binOp, eqGuard, equalIn_ptr hT (some _) none _ (.inr rfl)]
    rw [this]
    exact ⟨.refl _ _, false, rfl, fun _ => rfl⟩
  · obtain ⟨r, W', hs, hext⟩ := run_sameAddr_any (P := P) (a := ⟨b, o, none⟩) (b := ⟨b2, o2, none⟩) hc' h2 hf'
    have heq : (Op.equal T (.pointer (some ⟨b, o, none⟩)) (.pointer (some ⟨b2, o2, none⟩))).run P W = .ok r W' := by
      show (Op.equalIn (9999 + 1) T _ _).run P W = _
      rw [Op.equalIn]
      simp [run_und hT, run_szOf hz, hs]
    have : (execOp a.eval ⟨d, .binOp .eql T x y T', ty, pos, af, gd⟩).run P W = .ok (.value (.bool r)) W' := by
      simp [execOp, e1, e2, binOp, eqGuard, heq]
    rw [this]
    exact ⟨hext, r, rfl, fun h => by cases h⟩
theorem cell_row {W : World} {b o : Nat} {v : Value} (h : W.cell? ⟨b, o, none⟩ = some v) : ∃ c T f, W.heap[b]? = some (.cells c T f) := by
  unfold World.cell? at h
  split at h
  · rename_i c T f hq; exact ⟨_, _, _, hq⟩
  all_goals simp_all
end
end Go.Eng
namespace Go.Eng
theorem fold_push : ∀ (ns : List Int) (r : ByteArray), (ns.foldl (fun r n => r.push (UInt8.ofNat n.toNat)) r).data.toList = r.data.toList ++ ns.map (fun n => UInt8.ofNat n.toNat)
  | [], r => by simp
  | n :: ns, r => by
    rw [List.foldl_cons, fold_push ns]
    simp [ByteArray.push]
theorem ofBytes_list (ns : List Int) : (ofBytes ns).data.toList = ns.map (fun n => UInt8.ofNat n.toNat) := by
  unfold ofBytes; rw [fold_push]; rfl
theorem ofBytes_size (ns : List Int) : (ofBytes ns).size = ns.length := by
  have h := congrArg List.length (ofBytes_list ns)
  rw [List.length_map, Array.length_toList] at h
  exact h
theorem utf_ascii (s : ByteArray) (h : ∀ p (hp : p < s.size), (s[p]'hp).toNat < 128) : ∀ f p, utfFrom s f p = true := by
  intro f
  induction f with
  | zero => intro p; rfl
  | succ f ih =>
    intro p
    by_cases hp : p < s.size
    · have := h p hp
      rw [utfFrom, if_pos hp, decode_ascii s p hp this, if_neg (by simp; omega)]
      exact ih _
    · exact utfFrom_end hp
end Go.Eng
namespace Go.Eng
theorem idx_out (name : ByteArray) : ∀ (ns : List ByteArray) (i : Nat), (idx name ns i = -1 ∧ name ∉ ns) ∨ ∃ j, idx name ns i = ((i + j : Nat) : Int) ∧ ns[j]? = some name
  | [], i => .inl ⟨rfl, by simp⟩
  | n :: ns, i => by
    rw [idx]
    by_cases h : name = n
    · rw [if_pos h]; exact .inr ⟨0, by simp, by simp [h]⟩
    · rw [if_neg h]
      rcases idx_out name ns (i + 1) with ⟨h1, h2⟩ | ⟨j, h1, h2⟩
      · exact .inl ⟨h1, by simp [h, h2]⟩
      · exact .inr ⟨j + 1, by rw [h1]; congr 1; omega, by simpa using h2⟩
theorem find_at {ns : List ByteArray} {name : ByteArray} (h : findB ns name = true) : ∃ i : Nat, findI ns name = i ∧ ns[i]? = some name := by
  unfold findB at h
  unfold findI
  split at h
  · rename_i ha
    rw [if_pos ha]
    exact ⟨_, rfl, by simpa using h⟩
  · rename_i ha
    rw [if_neg ha]
    rcases idx_out name ns 0 with ⟨h1, _⟩ | ⟨j, h1, h2⟩
    · rw [h1] at h; simp at h
    · exact ⟨j, by rw [h1]; simp, h2⟩
def getV (x : V) (name : ByteArray) : V := if x.k ≠ 5 then V.zero else if findB x.ns name = false ∨ (x.xs.length : Int) ≤ findI x.ns name then V.zero else x.xs.getD (findI x.ns name).toNat V.zero
def getB (x : V) (name : ByteArray) : Bool := if x.k ≠ 5 then false else if findB x.ns name = false ∨ (x.xs.length : Int) ≤ findI x.ns name then false else true
theorem getV_in {x : V} {name : ByteArray} {i : Nat} (hk : ¬ x.k ≠ 5) (hn : ¬ (findB x.ns name = false ∨ (x.xs.length : Int) ≤ findI x.ns name)) (h : findI x.ns name = i) (hi : i < x.xs.length) : getV x name = x.xs[i] := by
  rw [getV, if_neg hk, if_neg hn, h]
  simp [List.getD_eq_getElem?_getD, hi]
end Go.Eng
namespace Go.Eng
def hexB (c : Nat) : Bool := (decide (48 ≤ c) && decide (c ≤ 57)) || (decide (97 ≤ c) && decide (c ≤ 102))
def hexV (c : Nat) : Int := if 48 ≤ c ∧ c ≤ 57 then c - 48 else if 97 ≤ c ∧ c ≤ 102 then c - 97 + 10 else 0
def hexIs (s : ByteArray) : Bool := s.data.toList.all fun c => hexB c.toNat
theorem hexIs_iff (s : ByteArray) : hexIs s = true ↔ ∀ i (h : i < s.size), hexB (s[i]'h).toNat = true := by
  unfold hexIs
  rw [List.all_eq_true]
  constructor
  · intro h i hi
    exact h _ (by rw [ByteArray.getElem_eq_getElem_data]; simp)
  · intro h c hc
    obtain ⟨i, hi, rfl⟩ := List.getElem_of_mem hc
    have hi' : i < s.size := by simpa using hi
    have := h i hi'
    rw [ByteArray.getElem_eq_getElem_data] at this
    simpa using this
theorem hexIs_false {s : ByteArray} {i : Nat} (h : i < s.size) (hf : hexB (s[i]'h).toNat = false) : hexIs s = false := by
  cases hq : hexIs s with
  | false => rfl
  | true => have := (hexIs_iff s).1 hq i h; rw [hf] at this; cases this
def digB (s : ByteArray) : Bool := decide (s.size = 64) && hexIs s
def memB (s : ByteArray) : List ByteArray → Bool
  | [] => false
  | a :: r => decide (s = a) || memB s r
theorem memB_iff (s : ByteArray) : ∀ l, memB s l = true ↔ s ∈ l
  | [] => by simp [memB]
  | a :: r => by simp [memB, memB_iff s r]
theorem memB_false {s : ByteArray} {l : List ByteArray} (h : s ∉ l) : memB s l = false := by
  cases hq : memB s l with
  | false => rfl
  | true => exact absurd ((memB_iff s l).1 hq) h
def wrongE : List ByteArray → List ByteArray → Int
  | _, [] => 0
  | seen, s :: r => if digB s = false then 3 else if memB s seen = true then 7 else wrongE (seen ++ [s]) r
def ones (l : List ByteArray) : As := l.map fun s => (s, 1)
theorem mget_ones (l : List ByteArray) (s : ByteArray) : mget (ones l) s = if memB s l = true then 1 else 0 := by
  induction l with
  | nil => rfl
  | cons a l ih =>
    simp only [ones, List.map_cons, mget, memB] at ih ⊢
    by_cases h : s = a
    · simp [h]
    · simp only [h, if_false, ih, decide_false, Bool.false_or]
theorem mset_ones {l : List ByteArray} {s : ByteArray} (h : memB s l = false) : mset (ones l) s 1 = ones (l ++ [s]) := by
  induction l with
  | nil => rfl
  | cons a l ih =>
    simp only [memB, Bool.or_eq_false_iff, decide_eq_false_iff_not] at h
    simp only [ones, List.map_cons, mset, List.cons_append] at ih ⊢
    rw [if_neg h.1, ih h.2]
def mayA (a : Au) : Bool := if (a.ids.length : Int) < 1 ∨ (16 : Int) < a.ids.length ∨ a.th < 1 ∨ (a.ids.length : Int) < a.th then false else decide (wrongE [] a.ids = 0)
def hasA (a : Au) (s : ByteArray) : Bool := memB s a.ids
theorem idx_mem (s : ByteArray) (ns : List ByteArray) : decide ((0 : Int) ≤ idx s ns 0) = memB s ns := by
  rcases idx_out s ns 0 with ⟨h1, h2⟩ | ⟨j, h1, h2⟩
  · rw [h1, memB_false h2]; rfl
  · rw [h1, (memB_iff s ns).2 (List.mem_of_getElem? h2)]
    exact decide_eq_true (by omega)
def sameA (a b : Au) : Bool := decide (a.th = b.th) && decide (a.ids = b.ids)
theorem Au.ext' {a b : Au} (h1 : a.th = b.th) (h2 : a.ids = b.ids) : a = b := by cases a; cases b; simp_all
theorem sameA_iff (a b : Au) : sameA a b = true ↔ a = b := by
  cases a; cases b; simp [sameA]
def txtV (s : ByteArray) : V := V.mk 3 0 s [] []
def txtsV (l : List ByteArray) : V := V.mk 4 0 ⟨#[]⟩ [] (l.map txtV)
def objV (th : Int) (ids : List ByteArray) : V := V.mk 5 0 ⟨#[]⟩ [⟨#[107, 101, 121, 105, 100, 115]⟩, ⟨#[116, 104, 114, 101, 115, 104, 111, 108, 100]⟩] [txtsV ids, V.mk 2 th ⟨#[]⟩ [] []]
def szI : List ByteArray → Nat → Nat
  | [], n => n
  | s :: r, n => if n < 5000 then szI r (n + 10 + min 5000 s.size) else n
def szA : List Au → Nat → Nat
  | [], n => n
  | p :: l, n => szA l (szI p.ids n)
theorem szI_big (l : List ByteArray) {n : Nat} (h : 5000 ≤ n) : szI l n = n := by cases l <;> simp [szI]; omega
theorem szI_le : ∀ (l : List ByteArray) (n : Nat), n ≤ szI l n ∧ szI l n ≤ max n 10010
  | [], n => by simp [szI]; omega
  | s :: r, n => by
    simp only [szI]
    split
    · have := szI_le r (n + 10 + min 5000 s.size); omega
    · omega
theorem szI_len : ∀ (l : List ByteArray) (n : Nat), szI l n < 5000 → n + 10 * l.length ≤ szI l n
  | [], n, _ => by simp [szI]
  | s :: r, n, h => by
    simp only [szI] at h ⊢
    split at h
    · rename_i hn
      rw [if_pos hn]
      have h1 := szI_len r _ h
      simp only [List.length_cons]; omega
    · omega
theorem szI_str : ∀ (l : List ByteArray) (n : Nat), szI l n < 5000 → ∀ s ∈ l, s.size < 5000
  | [], _, _, s, hs => by cases hs
  | a :: r, n, h, s, hs => by
    simp only [szI] at h
    split at h
    · have h1 := (szI_le r (n + 10 + min 5000 a.size)).1
      rcases List.mem_cons.1 hs with rfl | hs
      · omega
      · exact szI_str r _ h s hs
    · omega
theorem rd_lenA {W : World} {S : BSet} {l : List Au} {v : Value} (h : Rd W S (ausD l) v) : l.length ≤ maxLen := by
  obtain ⟨cs, h1, _⟩ := h
  simp only [ausD, RdC] at h1
  obtain ⟨a, cap, _, h2, h3, _⟩ := h1
  simp at h2; omega
theorem rd_idsA {W : World} {S : BSet} {l : List Au} {v : Value} (h : Rd W S (ausD l) v) {k : Nat} (hk : k < l.length) : (l[k]).ids.length ≤ maxLen := by
  obtain ⟨cs, h1, _⟩ := h
  simp only [ausD, RdC] at h1
  obtain ⟨a, cap, _, h2, h3, h4⟩ := h1
  rcases h4 with h4 | ⟨b, o, _, _, _, h4⟩
  · have : l = [] := by simpa using h4
    subst this; simp at hk
  · obtain ⟨c, _, _, hc⟩ := h4.get k (by simpa using hk)
    obtain ⟨_, _, _, h5⟩ := rdAu_out (⟨c, by simpa using hc, rfl⟩ : Rd W S (l[k]).d (asm (l[k]).d c))
    exact rd_lenS h5
theorem idb (c : Int) : (ofBytes (List.replicate (lit 64) c)).size ≤ maxLen := by rw [ofBytes_size, List.length_replicate]; exact Nat.le_of_ble_eq_true rfl
theorem rep_set {α : Type} {a z : α} {k n : Nat} (h : k < n) : (List.replicate k a ++ List.replicate (n - k) z).set k a = List.replicate (k + 1) a ++ List.replicate (n - (k + 1)) z := by
  rw [show n - k = (n - (k + 1)) + 1 by omega, List.replicate_succ, List.set_append_right _ _ (by simp), List.replicate_succ']
  simp
end Go.Eng
namespace Go.Eng
def RetL (W : World) (L : List Nat) (φ : Value → World → Prop) : Ending → World → Prop := fun e W' => ∃ v, e = .returned v ∧ Keeps (fun k => k ∉ L) W W' ∧ φ v W'
theorem sub_nlF {w : World} {M L : List Nat} (hb : ∀ b ∈ L, b ∈ M) : ∀ b' o, SF w M b' o → b' ∉ L := fun b' _ h e => h.2.2 (hb b' e)
theorem sa_notin {w : World} {S' : BSet} {M L : List Nat} (hb : ∀ b ∈ L, b ∈ M) : ∀ b ∈ L, ∀ o, ¬ SA w S' M b o := fun b h o hs => hs.2.2 (hb b h)
theorem sf_notin {w : World} {M L : List Nat} (hb : ∀ b ∈ L, b ∈ M) : ∀ b ∈ L, ∀ o, ¬ SF w M b o := fun b h o hs => hs.2.2 (hb b h)
theorem sub_frnl {W : World} {L : List Nat} (hb : ∀ b ∈ L, b < W.heap.size) : ∀ b' o, Fr W b' o → b' ∉ L := fun b' _ h e => by have := hb b' e; have := h.1; omega
section
variable {w W W' : World} {S : BSet} {M L : List Nat} {d : D} {v : Value} {S0 : Nat → Prop}
theorem sa_keepL (h : Rd W (SA w S M) d v) (k : Keeps (fun x => x ∉ L) W W') (hb : ∀ b ∈ L, b ∈ M) : Rd W' (SA w S M) d v := h.keeps k fun x _ hx e => hx.2.2 (hb x e)
theorem sf_keepL (h : Rd W (SF w M) d v) (k : Keeps (fun x => x ∉ L) W W') (hb : ∀ b ∈ L, b ∈ M) : Rd W' (SF w M) d v := h.keeps k fun x _ hx e => hx.2.2 (hb x e)
theorem own_keepL {b : Nat} {cs : List Value} {T : TypeId} (h : Own W b cs T) (k : Keeps (fun x => x ∉ L) W W') (hne : b ∉ L) : Own W' b cs T := h.keeps k hne
theorem ownM_keepL {b : Nat} {A : As} (h : OwnM W b A) (k : Keeps (fun x => x ∉ L) W W') (hne : b ∉ L) : OwnM W' b A := h.keeps k hne
theorem keeps_L (h : Keeps S0 w W) (k : Keeps (fun x => x ∉ L) W W') (hb : ∀ b ∈ L, w.heap.size ≤ b ∨ ¬ S0 b) : Keeps S0 w W' :=
  ⟨k.os.trans h.os, k.tape.trans h.tape, k.output.trans h.output, Nat.le_trans h.size k.size, fun i hi hs => by
    rw [k.block i (Nat.lt_of_lt_of_le hi h.size) (fun hm => (hb i hm).elim (fun h => by omega) (fun h => h hs))]; exact h.block i hi hs⟩
theorem keeps_storeN {b : Nat} (h : Keeps S0 w W) (k : Keeps (fun x => x ≠ b) W W') (hb : ¬ S0 b) : Keeps S0 w W' :=
  ⟨k.os.trans h.os, k.tape.trans h.tape, k.output.trans h.output, Nat.le_trans h.size k.size, fun i hi hs => by
    rw [k.block i (Nat.lt_of_lt_of_le hi h.size) (fun e => hb (e ▸ hs))]; exact h.block i hi hs⟩
end
section
variable {P : Program} {ops : Array Oper} {S : Nat → Prop} {w0 : World} {a0 : Act} {Γ : Ctx}
variable {d : Option Tmp} {ty : TypeId} {pos : String} {af : Array Edge}
variable {K : List Oper → Ctx → (World → Prop) → List Bool → Prop} {l : List Oper} {Ψ Ψ' : World → Prop} {ms : List Bool}
theorem Chain.callL {f : FuncId} {xs : Array Operand} {ts : Array TypeId} {φ : Fact} (hf : Enters P f) (hst : Stable S φ) (hst' : StableE Ψ')
    (hc : ∀ a g W, Keeps S w0 W → GOk w0 W g → Env Γ a0 a g W (Oper.looksAt ops ⟨d, .call ⟨.value (.func f), xs, ts⟩, ty, pos, af, none⟩) → Ψ W → Calls P f (xs.map a.eval) W fun e W' => ∃ v, e = .returned v ∧ Keeps S W W' ∧ φ g v W' ∧ Ψ' W')
    (h : Chain P ops S w0 a0 K false l ((d, φ) :: Γ) Ψ' (true :: ms)) :
    Chain P ops S w0 a0 K false (⟨d, .call ⟨.value (.func f), xs, ts⟩, ty, pos, af, none⟩ :: l) Γ Ψ ms := by
  refine Chain.main φ Ψ' hst hst' (fun a g W hk hg he hψ => ?_) h
  have hw : Region.wanted (⟨d, .call ⟨.value (.func f), xs, ts⟩, ty, pos, af, none⟩ : Oper) (yielded ops a.tmps) = true := rfl
  unfold ObRun; rw [if_pos hw]
  unfold OpRuns
  rw [run_call rfl hf]
  exact hc a g W hk hg he hψ
theorem Chain.callL1 {f : FuncId} {x : Operand} {ts : Array TypeId} {φ1 φ : Fact} (hf : Enters P f) (hx : Has S w0 a0 Γ x φ1) (hst : Stable S φ) (hst' : StableE Ψ')
    (hc : ∀ g u1 W, Keeps S w0 W → GOk w0 W g → φ1 g u1 W → Ψ W → Calls P f #[u1] W fun e W' => ∃ v, e = .returned v ∧ Keeps S W W' ∧ φ g v W' ∧ Ψ' W')
    (h : Chain P ops S w0 a0 K false l ((d, φ) :: Γ) Ψ' (true :: ms)) : Chain P ops S w0 a0 K false (⟨d, .call ⟨.value (.func f), #[x], ts⟩, ty, pos, af, none⟩ :: l) Γ Ψ ms :=
  Chain.callL hf hst hst' (fun a g W hk hg he hψ => by simpa using hc g _ W hk hg (hx.of_env hk hg he (by simp [Op.operands, Call.operands])) hψ) h
theorem Chain.callL2 {f : FuncId} {x y : Operand} {ts : Array TypeId} {φ1 φ2 φ : Fact} (hf : Enters P f) (hx : Has S w0 a0 Γ x φ1) (hy : Has S w0 a0 Γ y φ2) (hst : Stable S φ) (hst' : StableE Ψ')
    (hc : ∀ g u1 u2 W, Keeps S w0 W → GOk w0 W g → φ1 g u1 W → φ2 g u2 W → Ψ W → Calls P f #[u1, u2] W fun e W' => ∃ v, e = .returned v ∧ Keeps S W W' ∧ φ g v W' ∧ Ψ' W')
    (h : Chain P ops S w0 a0 K false l ((d, φ) :: Γ) Ψ' (true :: ms)) : Chain P ops S w0 a0 K false (⟨d, .call ⟨.value (.func f), #[x, y], ts⟩, ty, pos, af, none⟩ :: l) Γ Ψ ms :=
  Chain.callL hf hst hst' (fun a g W hk hg he hψ => by simpa using hc g _ _ W hk hg (hx.of_env hk hg he (by simp [Op.operands, Call.operands])) (hy.of_env hk hg he (by simp [Op.operands, Call.operands])) hψ) h
theorem Chain.callL3 {f : FuncId} {x y z : Operand} {ts : Array TypeId} {φ1 φ2 φ3 φ : Fact} (hf : Enters P f) (hx : Has S w0 a0 Γ x φ1) (hy : Has S w0 a0 Γ y φ2) (hz : Has S w0 a0 Γ z φ3) (hst : Stable S φ) (hst' : StableE Ψ')
    (hc : ∀ g u1 u2 u3 W, Keeps S w0 W → GOk w0 W g → φ1 g u1 W → φ2 g u2 W → φ3 g u3 W → Ψ W → Calls P f #[u1, u2, u3] W fun e W' => ∃ v, e = .returned v ∧ Keeps S W W' ∧ φ g v W' ∧ Ψ' W')
    (h : Chain P ops S w0 a0 K false l ((d, φ) :: Γ) Ψ' (true :: ms)) : Chain P ops S w0 a0 K false (⟨d, .call ⟨.value (.func f), #[x, y, z], ts⟩, ty, pos, af, none⟩ :: l) Γ Ψ ms :=
  Chain.callL hf hst hst' (fun a g W hk hg he hψ => by simpa using hc g _ _ _ W hk hg (hx.of_env hk hg he (by simp [Op.operands, Call.operands])) (hy.of_env hk hg he (by simp [Op.operands, Call.operands])) (hz.of_env hk hg he (by simp [Op.operands, Call.operands])) hψ) h
theorem Chain.callL4 {f : FuncId} {x y z q : Operand} {ts : Array TypeId} {φ1 φ2 φ3 φ4 φ : Fact} (hf : Enters P f) (hx : Has S w0 a0 Γ x φ1) (hy : Has S w0 a0 Γ y φ2) (hz : Has S w0 a0 Γ z φ3) (hq : Has S w0 a0 Γ q φ4) (hst : Stable S φ) (hst' : StableE Ψ')
    (hc : ∀ g u1 u2 u3 u4 W, Keeps S w0 W → GOk w0 W g → φ1 g u1 W → φ2 g u2 W → φ3 g u3 W → φ4 g u4 W → Ψ W → Calls P f #[u1, u2, u3, u4] W fun e W' => ∃ v, e = .returned v ∧ Keeps S W W' ∧ φ g v W' ∧ Ψ' W')
    (h : Chain P ops S w0 a0 K false l ((d, φ) :: Γ) Ψ' (true :: ms)) : Chain P ops S w0 a0 K false (⟨d, .call ⟨.value (.func f), #[x, y, z, q], ts⟩, ty, pos, af, none⟩ :: l) Γ Ψ ms :=
  Chain.callL hf hst hst' (fun a g W hk hg he hψ => by simpa using hc g _ _ _ _ W hk hg (hx.of_env hk hg he (by simp [Op.operands, Call.operands])) (hy.of_env hk hg he (by simp [Op.operands, Call.operands])) (hz.of_env hk hg he (by simp [Op.operands, Call.operands])) (hq.of_env hk hg he (by simp [Op.operands, Call.operands])) hψ) h
theorem sp_mkF1 {gd : Option (Nat × Bool)} {x : Operand} {f : FuncId} {u : Value} (hx : Has S w0 a0 Γ x (Is u)) : Spec P ops S w0 a0 Γ ⟨d, .makeFunc (.func f) #[] #[x], ty, pos, af, gd⟩ (Is (.func (.func f) #[] #[u])) := sp_mkF0 fun a g W hk hg he => by
  have e1 : a.eval x = u := hx.of_env hk hg he (by simp [Op.operands])
  simp [e1]
theorem stE_and {Ψ1 Ψ2 : World → Prop} (h1 : StableE Ψ1) (h2 : StableE Ψ2) : StableE fun W => Ψ1 W ∧ Ψ2 W := fun W W' k h => ⟨h1 W W' k h.1, h2 W W' k h.2⟩
theorem stE_own {b : Nat} {cs : List Value} {T : TypeId} : StableE fun W => Own W b cs T := fun _ _ k h => h.ext k
theorem stE_ownM {b : Nat} {A : As} : StableE fun W => OwnM W b A := fun _ _ k h => h.ext k
end
end Go.Eng
namespace Go.Eng
def errK (k : Nat) (e : Int) : Int := if e = 0 ∧ k ≠ 5 then 10 else e
def failK (k : Nat) (e e' : Int) : Int := if errK k e = 0 then e' else e
def itemsE (v : V) (most : Int) : Int := if v.k ≠ 4 then 10 else if most < v.xs.length then 5 else 0
def itemsV (v : V) (most : Int) : List V := if itemsE v most = 0 then v.xs else []
def allT (xs : List V) : Bool := xs.all fun v => decide (v.k = 3)
def textsE (most : Int) (v : V) : Int := if itemsE v most ≠ 0 then itemsE v most else if allT v.xs then 0 else 10
def textsL (most : Int) (v : V) : List ByteArray := if textsE most v = 0 then v.xs.map V.t else []
def numE (lo hi : Int) (v : V) : Int := if v.k ≠ 2 then 10 else if v.n < lo ∨ hi < v.n then 1 else 0
def numV (lo hi : Int) (v : V) : Int := if numE lo hi v = 0 then v.n else 0
def tkE (x : V) (e : Int) (name : ByteArray) (ce : V → Int) : Int := if errK x.k e ≠ 0 then e else if getB x name = false then 6 else ce (getV x name)
def tkB (x : V) (e : Int) (name : ByteArray) (ce : V → Int) : Bool := decide (errK x.k e = 0) && getB x name && decide (ce (getV x name) = 0)
def tkA (x : V) (A : As) (e : Int) (name : ByteArray) (ce : V → Int) : As := if tkB x e name ce then mset A name (mget A name + 1) else A
def doneE (x : V) (A : As) (e : Int) : Int := if errK x.k e ≠ 0 then errK x.k e else if x.ns.all (fun s => decide (mget A s ≠ 0)) then 0 else 11
theorem errK_zero {k : Nat} {e : Int} (h : errK k e = 0) : e = 0 ∧ k = 5 := by
  unfold errK at h
  split at h
  · cases h
  · rename_i hn
    subst h
    exact ⟨rfl, by omega⟩
theorem done_false {ns : List ByteArray} {A : As} {k : Nat} (h : k < ns.length) (h0 : mget A ns[k] = 0) : ns.all (fun s => decide (mget A s ≠ 0)) = false := by
  cases hq : ns.all (fun s => decide (mget A s ≠ 0)) with
  | false => rfl
  | true => have := List.all_eq_true.1 hq ns[k] (List.getElem_mem _); simp [h0] at this
theorem done_true {ns : List ByteArray} {A : As} (h : ∀ i (hi : i < ns.length), mget A ns[i] ≠ 0) : ns.all (fun s => decide (mget A s ≠ 0)) = true := by
  rw [List.all_eq_true]
  intro s hs
  obtain ⟨i, hi, rfl⟩ := List.getElem_of_mem hs
  simp [h i hi]
theorem allT_false {xs : List V} {k : Nat} (h : k < xs.length) (h0 : xs[k].k ≠ 3) : allT xs = false := by
  cases hq : allT xs with
  | false => rfl
  | true => have := List.all_eq_true.1 hq xs[k] (List.getElem_mem _); simp [h0] at this
theorem allT_true {xs : List V} (h : ∀ i (hi : i < xs.length), xs[i].k = 3) : allT xs = true := by
  unfold allT
  rw [List.all_eq_true]
  intro s hs
  obtain ⟨i, hi, rfl⟩ := List.getElem_of_mem hs
  simp [h i hi]
theorem getV_wt (x : V) (name : ByteArray) : (getV x name).wt ≤ x.wt := by
  have hz : V.zero.wt ≤ x.wt := wt_pos x
  unfold getV
  split
  · exact hz
  · split
    · exact hz
    · rw [List.getD_eq_getElem?_getD]
      cases h : x.xs[(findI x.ns name).toNat]? with
      | none => exact hz
      | some y =>
        obtain ⟨hi, rfl⟩ := List.getElem?_eq_some_iff.1 h
        have h1 := wts_mem hi
        have h2 := wt_eq x
        simp only [Option.getD_some]; omega
def AB (n : Int) (A : As) : Prop := ∀ s, 0 ≤ mget A s ∧ mget A s ≤ n
theorem AB.nil : AB 0 [] := fun _ => ⟨Int.le_refl _, Int.le_refl _⟩
theorem AB.mono {m n : Int} {A : As} (h : AB m A) (hmn : m ≤ n) : AB n A := fun s => ⟨(h s).1, by have := (h s).2; omega⟩
theorem AB.tk {n : Int} {A : As} {x : V} {e : Int} {name : ByteArray} {ce : V → Int} (h : AB n A) : AB (n + 1) (tkA x A e name ce) := by
  unfold tkA
  split
  · intro s
    rw [mget_set]
    split
    · have := h name; omega
    · have := h s; omega
  · exact h.mono (by omega)
end Go.Eng
namespace Go.Eng
def PkF (w : World) (bo bm : Nat) : BSet := fun b o => Fr w b o ∧ b ∉ [bo, bm]
def PkAt (w W : World) (T : TypeId) (x : V) (A : As) (e : Int) (u : Value) : Prop :=
  ∃ bo bm cn ci, u = .pointer (some ⟨bo, 0, none⟩) ∧ w.heap.size ≤ bo ∧ w.heap.size ≤ bm ∧ bo ≠ bm ∧ Own W bo [.int .u8 x.k, .int .i64 x.n, .string x.t, cn, ci, .map (some bm), .int .i64 e] T ∧ OwnM W bm A ∧
    Rd W (PkF w bo bm) (strsD x.ns) cn ∧ Rd W (PkF w bo bm) (valsD x.xs) ci ∧ x.t.size ≤ maxLen
def PkD (w W : World) (T : TypeId) (e : Int) (u : Value) : Prop :=
  ∃ bo, u = .pointer (some ⟨bo, 0, none⟩) ∧ w.heap.size ≤ bo ∧ Own W bo [.int .u8 0, .int .i64 0, .string ⟨#[]⟩, .slice none 0 0, .slice none 0 0, .map none, .int .i64 e] T
def IsPk (w0 : World) (T : TypeId) (x : V) (A : As) (e : Int) : Fact := fun _ u W => PkAt w0 W T x A e u
def IsPkD (w0 : World) (T : TypeId) (e : Int) : Fact := fun _ u W => PkD w0 W T e u
theorem PkAt.ext {w W W' : World} {T : TypeId} {x : V} {A : As} {e : Int} {u : Value} (h : PkAt w W T x A e u) (k : Ext W W') : PkAt w W' T x A e u := by
  obtain ⟨bo, bm, cn, ci, h1, h2, h3, h4, h5, h6, h7, h8, h9⟩ := h
  exact ⟨bo, bm, cn, ci, h1, h2, h3, h4, h5.ext k, h6.ext k, h7.ext k, h8.ext k, h9⟩
theorem st_pk {w0 : World} {T : TypeId} {x : V} {A : As} {e : Int} : Stable All (IsPk w0 T x A e) := ⟨fun _ _ _ _ k h => PkAt.ext h k, fun _ _ _ _ _ _ h => h⟩
theorem st_pkd {w0 : World} {T : TypeId} {e : Int} : Stable All (IsPkD w0 T e) := ⟨fun _ _ _ _ k ⟨bo, h1, h2, h3⟩ => ⟨bo, h1, h2, h3.ext k⟩, fun _ _ _ _ _ _ h => h⟩
theorem pk_up {S : Nat → Prop} {w0 W W' : World} {T : TypeId} {x : V} {A : As} {e : Int} {u : Value} (hk : Keeps S w0 W) (h : PkAt W W' T x A e u) : PkAt w0 W' T x A e u := by
  obtain ⟨bo, bm, cn, ci, h1, h2, h3, h4, h5, h6, h7, h8, h9⟩ := h
  have up : ∀ b o, PkF W bo bm b o → b < W'.heap.size → PkF w0 bo bm b o := fun b o hb _ => ⟨⟨Nat.le_trans hk.size hb.1.1, hb.1.2⟩, hb.2⟩
  exact ⟨bo, bm, cn, ci, h1, Nat.le_trans hk.size h2, Nat.le_trans hk.size h3, h4, h5, h6, h7.mono up, h8.mono up, h9⟩
theorem pkd_up {S : Nat → Prop} {w0 W W' : World} {T : TypeId} {e : Int} {u : Value} (hk : Keeps S w0 W) (h : PkD W W' T e u) : PkD w0 W' T e u := by
  obtain ⟨bo, h1, h2, h3⟩ := h
  exact ⟨bo, h1, Nat.le_trans hk.size h2, h3⟩
theorem pk_data {S0 : Nat → Prop} {w W0 W : World} {bo bm : Nat} {M : List Nat} {d : D} {v : Value} (kw : Keeps S0 w W0) (hM : ∀ b ∈ M, b < W0.heap.size) (h : Rd W (PkF W0 bo bm) d v) : Rd W (SF w ([bo, bm] ++ M)) d v :=
  h.mono fun b _ hb _ => ⟨Nat.le_trans kw.size hb.1.1, hb.1.2, fun hm => (List.mem_append.1 hm).elim hb.2 fun h => by have := hM b h; have := hb.1.1; omega⟩
theorem sf_pkf {w W : World} {bo bm : Nat} {M : List Nat} {d : D} {v : Value} (hL : ∀ b ∈ [bo, bm], b ∈ M) (h : Rd W (SF w M) d v) : Rd W (PkF w bo bm) d v :=
  h.mono fun b _ hb _ => ⟨⟨hb.1, hb.2.1⟩, fun hm => hb.2.2 (hL b hm)⟩
def ofE (x : V) : Int := if x.k ≠ 5 then 10 else if x.ns.length ≠ x.xs.length ∨ asc x.ns = false then 3 else 0
theorem failK_dead {k : Nat} {e f : Int} (h : errK k e ≠ 0) : failK k e f = e := by rw [failK, if_neg h]
end Go.Eng
namespace Go.Eng
def idsP (x : V) (e : Int) : List ByteArray := if tkB x e ⟨#[107, 101, 121, 105, 100, 115]⟩ (textsE 16) then textsL 16 (getV x ⟨#[107, 101, 121, 105, 100, 115]⟩) else []
def e1P (x : V) (e : Int) : Int := tkE x e ⟨#[107, 101, 121, 105, 100, 115]⟩ (textsE 16)
def e2P (x : V) (e : Int) : Int := if (idsP x e).length = 0 then failK x.k (e1P x e) 4 else e1P x e
def e3P (x : V) (e : Int) : Int := failK x.k (e2P x e) (wrongE [] (idsP x e))
def partE (x : V) (e : Int) : Int := tkE x (e3P x e) ⟨#[116, 104, 114, 101, 115, 104, 111, 108, 100]⟩ (numE 1 (idsP x e).length)
def partM (x : V) (A : As) (e : Int) : As := tkA x (tkA x A e ⟨#[107, 101, 121, 105, 100, 115]⟩ (textsE 16)) (e3P x e) ⟨#[116, 104, 114, 101, 115, 104, 111, 108, 100]⟩ (numE 1 (idsP x e).length)
def thP (x : V) (e : Int) : Int := if tkB x (e3P x e) ⟨#[116, 104, 114, 101, 115, 104, 111, 108, 100]⟩ (numE 1 (idsP x e).length) then numV 1 (idsP x e).length (getV x ⟨#[116, 104, 114, 101, 115, 104, 111, 108, 100]⟩) else 0
def partA (x : V) (e : Int) : Au := if errK x.k (partE x e) ≠ 0 then ⟨0, []⟩ else ⟨thP x e, idsP x e⟩
def ofAE (x : V) : Int := if mayB x = false then 3 else if ofE x ≠ 0 then ofE x else doneE x (partM x [] 0) (partE x 0)
def ofAV (x : V) : Au := if ofAE x = 0 then partA x 0 else ⟨0, []⟩
theorem ofE_dead {x : V} (h : ofE x ≠ 0) : errK 0 (ofE x) = ofE x := by rw [errK, if_neg (by simp [h])]
end Go.Eng
