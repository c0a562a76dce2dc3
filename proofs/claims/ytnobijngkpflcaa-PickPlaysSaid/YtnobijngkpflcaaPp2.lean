/-
  The law PickPlays of package legatelaw11 returns true for every input, and leaves its arguments as they were. No condition beyond the row's own.
-/
import Derived.Test.YtnobijngkpflcaaPp1
import Derived.Sort.Walk0
import Derived.MapKept
import Derived.Shelf.SlSortCmp.InsertionK
import Derived.Lib.Bytealg
import Derived.Laws.StructEq
namespace Go.Proofs.Ytnobijngkpflcaa
open Go.Eng
set_option maxRecDepth 100000 in
theorem size_all : ∀ (n : Nat) (xs : List V), V.cnts xs < n → ∀ (deep : Nat), deep ≤ 201 → ∀ (w : World) (S : BSet) (v : Value), Rd w S (valsD xs) v → Calls Try.prog 81 #[v, .int .i64 deep] w (Ret w fun u _ => u = .int .i64 (szL xs deep 0)) := by
 intro n
 induction n with
 | zero => intro xs hx; omega
 | succ n ih =>
 intro xs hx deep hdeep w S v hv
 have hmx : xs.length ≤ maxLen := rd_len hv
 simp only [maxLen] at hmx
 obtain ⟨va, vc, ev, D_v⟩ := rdVs_out (rd_arg hv)
 subst ev
 refine enter Try.func81 rfl Try.ntmps81 (lbr rfl) fun a0 y0 zz0 harg => ?_
 have e0 : sl a0 0 = (.slice va (xs.length) vc) := harg 0 (lbr rfl)
 have e1 : sl a0 1 = (.int .i64 ((deep : Nat))) := harg 1 (lbr rfl)
 have kw := Keeps.refl All w
 clear harg
 refine zq fun K1 hK1 => ?_
 refine rg mixed y0 zz0 ?_
 refine .ac ?_
 refine .dn fun a2 g W2 y2 zz2 hk hg hV hR hP => ?_
 obtain ⟨-, -⟩ := hV
 replace e0 := ft hR e0
 replace e1 := ft hR e1
 replace D_v := D_v.ext hk
 replace kw := kw.x hk
 clear hR hk hg hP
 refine zn (hK1 _ _ ?_)
 refine zq fun K3 hK3 => ?_
 refine rg mixed y2 zz2 ?_
 refine .ac ?_
 refine .dn fun a4 g W4 y4 zz4 hk hg hV hR hP => ?_
 obtain ⟨e5, -⟩ := hV
 replace e0 := ft hR e0
 replace e1 := ft hR e1
 replace D_v := D_v.ext hk
 replace e5 := e5.q
 replace kw := kw.x hk
 clear hR hk hg hP
 refine zn (hK3 _ _ ?_)
 refine zq fun K5 hK5 => ?_
 refine zq fun K6 hK6 => ?_
 refine rg mixed y4 zz4 ?_
 refine .ac ?_
 refine .dn fun a7 g W7 y7 zz7 hk hg hV hR hP => ?_
 obtain ⟨e6, -⟩ := hV
 replace e0 := ft hR e0
 replace e1 := ft hR e1
 replace e5 := ft hR e5
 replace D_v := D_v.ext hk
 replace e6 := e6.q
 replace kw := kw.x hk
 clear hR hk hg hP
 refine zn (hK6 _ _ ?_)
 refine wp_block ?_
 refine wp_for (xs.length) (fun k a W => ∃ (n2 : Nat), a.tmps.size = 68 ∧ a.defers = [] ∧ Keeps All w W ∧ sl a 0 = (.slice va (xs.length) vc) ∧ sl a 1 = (.int .i64 ((deep : Nat))) ∧ sl a 5 = (.int .i64 ((n2 : Nat))) ∧ sl a 6 = (.int .i64 ((k : Nat))) ∧ Rd W (SA w S []) (valsD (xs)) (.slice va (xs.length) vc) ∧ (szL xs deep 0 = szL (xs.drop k) deep n2)) ⟨0, y7, zz7, kw, e0, e1, (e5.trans (congrArg (Value.int .i64) (rfl))), (e6.trans (congrArg (Value.int .i64) (rfl))), D_v, rfl⟩ ?_
 clear kw e0 e1 e5 e6 D_v
 rintro k a8 W8 hkk ⟨n2, y8, zz8, kw, e0, e1, e5, e6, D_v, hin⟩
 refine zq fun K9 hK9 => ?_
 refine zq fun K10 hK10 => ?_
 refine rg mixed y8 zz8 ?_
 refine .mb rfl e6 ?_
 refine .mb rfl e0 ?_
 refine .i (sp_lenVs Try.underlying31 ((hlc rfl).dat D_v sub_all)) ?_
 refine .i (sp_lss (hlc rfl) (hlc rfl)) ?_
 refine .i (sp_move (hlc rfl)) ?_
 refine .em rfl (hlc rfl) rfl e5 ?_
 refine .e rfl (hlc rfl) (fun hg => sp_lss ((hlc rfl).undE hg) Has.cst) ?_
 refine .i (sp_and (hlc rfl) ((hlc rfl).weak fun hq => hq)) ?_
 refine .dn fun a11 g W11 y11 zz11 hk hg hV hR hP => ?_
 obtain ⟨e15, -, -, -, -, -, -, -, -⟩ := hV
 replace e0 := ft hR e0
 replace e1 := ft hR e1
 replace e5 := ft hR e5
 replace e6 := ft hR e6
 replace D_v := D_v.ext hk
 replace e15 := e15.q
 replace kw := kw.x hk
 clear hR hk hg hP
 refine zn (hK10 _ _ ?_)
 refine zc e15 (fun hc => ?_) (fun hc => ?_)
 ·
  simp at hc
  obtain ⟨hlt, hn2i⟩ := hc
  have hn2 : n2 < 20000 := by omega
  have hdr := List.drop_eq_getElem_cons hlt
  have hce := cnt_elem hlt
  have hcq := cnt_eq xs[k]
  rw [hdr, szL, if_pos hn2] at hin
  have hmn : (xs[k]).ns.length ≤ maxLen := rd_ns hv hlt
  simp only [maxLen] at hmn
  refine wp_skip (hK9 _ _ ?_)
  refine zq fun K12 hK12 => ?_
  refine wp_block ?_
  refine zq fun K13 hK13 => ?_
  refine rg mixed y11 zz11 ?_
  refine .mb rfl e5 ?_
  refine .i (sp_add (hlc rfl) Has.cst (i64_in (by omega))) ?_
  refine .mb rfl e0 ?_
  refine .mb rfl e6 ?_
  refine .rf (sp_indexV (i := k) ((hlc rfl).dat D_v sub_all) (hlc rfl) Try.underlying31 sz33 rfl hlt) ?_
  refine .rf (X := SA w S []) (e := D.str ((xs[k]'hlt).t)) (sp_fieldV (hlc rfl) Try.underlying33 rfl sz9 rfl rfl) ?_
  refine .i (sp_loadStr (hlc rfl) agg9 sz9) ?_
  refine .i (sp_lenS Try.underlying9 (hlc rfl)) ?_
  refine .i (sp_min Has.cst (hlc rfl)) ?_
  refine .i (sp_add (hlc rfl) (hlc rfl) (i64_in (by omega))) ?_
  refine .al rfl ?_
  refine .dn fun a14 g W14 y14 zz14 hk hg hV hR hP => ?_
  obtain ⟨e5, -, -, -, -, -, -, -, -, -, -, -⟩ := hV
  replace e0 := ft hR e0
  replace e1 := ft hR e1
  replace e6 := ft hR e6
  replace D_v := D_v.ext hk
  replace e5 := e5.q
  replace kw := kw.x hk
  clear hR hk hg hP
  refine zn (hK13 _ _ ?_)
  refine zq fun K15 hK15 => ?_
  refine zq fun K16 hK16 => ?_
  refine rg mixed y14 zz14 ?_
  refine .ac ?_
  refine .dn fun a17 g W17 y17 zz17 hk hg hV hR hP => ?_
  obtain ⟨e7, -⟩ := hV
  replace e0 := ft hR e0
  replace e1 := ft hR e1
  replace e5 := ft hR e5
  replace e6 := ft hR e6
  replace D_v := D_v.ext hk
  replace e7 := e7.q
  replace kw := kw.x hk
  clear hR hk hg hP
  refine zn (hK16 _ _ ?_)
  refine wp_block ?_
  refine wp_for ((xs[k]'hlt).ns.length) (fun j a W => ∃ (n3 : Nat), a.tmps.size = 68 ∧ a.defers = [] ∧ Keeps All w W ∧ sl a 0 = (.slice va (xs.length) vc) ∧ sl a 1 = (.int .i64 ((deep : Nat))) ∧ sl a 5 = (.int .i64 ((n3 : Nat))) ∧ sl a 6 = (.int .i64 ((k : Nat))) ∧ sl a 7 = (.int .i64 ((j : Nat))) ∧ Rd W (SA w S []) (valsD (xs)) (.slice va (xs.length) vc) ∧ (szN (xs[k]'hlt).ns (n2 + 4 + min 20000 (xs[k]'hlt).t.size) = szN ((xs[k]'hlt).ns.drop j) n3)) ⟨(n2 + 4 + min 20000 (xs[k]'hlt).t.size), y17, zz17, kw, e0, e1, (e5.trans (congrArg (Value.int .i64) (by push_cast; omega))), e6, (e7.trans (congrArg (Value.int .i64) (rfl))), D_v, rfl⟩ ?_
  clear kw e0 e1 e5 e6 e7 D_v
  rintro j a18 W18 hkj ⟨n3, y18, zz18, kw, e0, e1, e5, e6, e7, D_v, hin2⟩
  refine zq fun K19 hK19 => ?_
  refine zq fun K20 hK20 => ?_
  refine rg mixed y18 zz18 ?_
  refine .mb rfl e7 ?_
  refine .mb rfl e0 ?_
  refine .mb rfl e6 ?_
  refine .rf (sp_indexV (i := k) ((hlc rfl).dat D_v sub_all) (hlc rfl) Try.underlying31 sz33 rfl hlt) ?_
  refine .rf (X := SA w S []) (e := strsD ((xs[k]'hlt).ns)) (sp_fieldV (hlc rfl) Try.underlying33 rfl sz23 rfl rfl) ?_
  refine .da (X := SA w S []) (e := strsD ((xs[k]'hlt).ns)) (sp_loadR (hlc rfl) agg23 sz23 rfl) ?_
  refine .i (sp_lenSs Try.underlying23 (hlc rfl)) ?_
  refine .i (sp_lss (hlc rfl) (hlc rfl)) ?_
  refine .i (sp_move (hlc rfl)) ?_
  refine .em rfl (hlc rfl) rfl e5 ?_
  refine .e rfl (hlc rfl) (fun hg => sp_lss ((hlc rfl).undE hg) Has.cst) ?_
  refine .i (sp_and (hlc rfl) ((hlc rfl).weak fun hq => hq)) ?_
  refine .dn fun a21 g W21 y21 zz21 hk hg hV hR hP => ?_
  obtain ⟨e39, -, -, -, -, -, -, -, -, -, -, -, -⟩ := hV
  replace e0 := ft hR e0
  replace e1 := ft hR e1
  replace e5 := ft hR e5
  replace e6 := ft hR e6
  replace e7 := ft hR e7
  replace D_v := D_v.ext hk
  replace e39 := e39.q
  replace kw := kw.x hk
  clear hR hk hg hP
  refine zn (hK20 _ _ ?_)
  refine zc e39 (fun hc => ?_) (fun hc => ?_)
  ·
   simp at hc
   obtain ⟨hltj, hn3i⟩ := hc
   have hn3 : n3 < 20000 := by omega
   have hdj := List.drop_eq_getElem_cons hltj
   rw [hdj, szN, if_pos hn3] at hin2
   refine wp_skip (hK19 _ _ ?_)
   refine zq fun K22 hK22 => ?_
   refine wp_block ?_
   refine rg mixed y21 zz21 ?_
   refine .mb rfl e5 ?_
   refine .i (sp_add (hlc rfl) Has.cst (i64_in (by omega))) ?_
   refine .mb rfl e0 ?_
   refine .mb rfl e6 ?_
   refine .rf (sp_indexV (i := k) ((hlc rfl).dat D_v sub_all) (hlc rfl) Try.underlying31 sz33 rfl hlt) ?_
   refine .rf (X := SA w S []) (e := strsD ((xs[k]'hlt).ns)) (sp_fieldV (hlc rfl) Try.underlying33 rfl sz23 rfl rfl) ?_
   refine .da (X := SA w S []) (e := strsD ((xs[k]'hlt).ns)) (sp_loadR (hlc rfl) agg23 sz23 rfl) ?_
   refine .mb rfl e7 ?_
   refine .rf (sp_indexS (i := j) (hlc rfl) (hlc rfl) Try.underlying23 sz9 rfl hltj) ?_
   refine .i (sp_loadStr (hlc rfl) agg9 sz9) ?_
   refine .i (sp_lenS Try.underlying9 (hlc rfl)) ?_
   refine .i (sp_min Has.cst (hlc rfl)) ?_
   refine .i (sp_add (hlc rfl) (hlc rfl) (i64_in (by omega))) ?_
   refine .al rfl ?_
   refine .dn fun a23 g W23 y23 zz23 hk hg hV hR hP => ?_
   obtain ⟨e5, -, -, -, -, -, -, -, -, -, -, -, -, -, -⟩ := hV
   replace e0 := ft hR e0
   replace e1 := ft hR e1
   replace e6 := ft hR e6
   replace e7 := ft hR e7
   replace D_v := D_v.ext hk
   replace e5 := e5.q
   replace kw := kw.x hk
   clear hR hk hg hP
   refine zn (hK22 _ _ ?_)
   refine rg mixed y23 zz23 ?_
   refine .mb rfl e7 ?_
   refine .i (sp_add (hlc rfl) Has.cst (i64_in (by omega))) ?_
   refine .al rfl ?_
   refine .dn fun a24 g W24 y24 zz24 hk hg hV hR hP => ?_
   obtain ⟨e7, -, -, -⟩ := hV
   replace e0 := ft hR e0
   replace e1 := ft hR e1
   replace e5 := ft hR e5
   replace e6 := ft hR e6
   replace D_v := D_v.ext hk
   replace e7 := e7.q
   replace kw := kw.x hk
   clear hR hk hg hP
   exact tail_nil ⟨hltj, (n3 + 2 + min 20000 ((xs[k]'hlt).ns[j]'hltj).size), y24, zz24, kw, e0, e1, (e5.trans (congrArg (Value.int .i64) (by push_cast; omega))), e6, (e7.trans (congrArg (Value.int .i64) (by simp))), D_v, hin2⟩
  have hfn : szN (xs[k]'hlt).ns (n2 + 4 + min 20000 (xs[k]'hlt).t.size) = n3 := by
   rw [hin2]; simp at hc
   by_cases hltj : j < (xs[k]'hlt).ns.length
   · exact szN_big _ (by have := hc hltj; omega)
   · rw [List.drop_eq_nil_of_le (by omega)]; rfl
  have hsv := szV_eq (xs[k]'hlt) deep n2
  rw [hfn] at hsv
  have hs1 := (szN_le (xs[k]'hlt).ns (n2 + 4 + min 20000 (xs[k]'hlt).t.size)).2
  rw [hfn] at hs1
  have hs2 := szL_top (xs[k]'hlt).xs (deep + 1) 0
  refine wp_exit (hK15 _ _ ?_)
  refine zq fun K25 hK25 => ?_
  refine zq fun K26 hK26 => ?_
  refine rg mixed y21 zz21 ?_
  refine .mb rfl e1 ?_
  refine .i (sp_gtr (hlc rfl) Has.cst) ?_
  refine .dn fun a27 g W27 y27 zz27 hk hg hV hR hP => ?_
  obtain ⟨e56, -, -⟩ := hV
  replace e0 := ft hR e0
  replace e1 := ft hR e1
  replace e5 := ft hR e5
  replace e6 := ft hR e6
  replace D_v := D_v.ext hk
  replace e56 := e56.q
  replace kw := kw.x hk
  clear hR hk hg hP
  refine zn (hK26 _ _ ?_)
  refine zc e56 (fun hc => ?_) (fun hc => ?_)
  ·
   have hdd : 200 < deep := by have := of_decide_eq_true hc; omega
   rw [if_pos hdd] at hin
   refine zq fun K28 hK28 => ?_
   refine rg mixed y27 zz27 ?_
   refine .ac ?_
   refine .dn fun a29 g W29 y29 zz29 hk hg hV hR hP => ?_
   obtain ⟨e4, -⟩ := hV
   replace D_v := D_v.ext hk
   replace e4 := e4.q
   replace kw := kw.x hk
   clear hR hk hg hP
   refine zn (hK28 _ _ ?_)
   refine wp_ret ?_
   refine ret1 rfl zz29 e4 ⟨_, rfl, kw, ?_⟩
   first | rw [hfin] | (rw [hin]; rfl)
  have hdd : ¬ 200 < deep := by have := of_decide_eq_false hc; omega
  rw [if_neg hdd, hsv] at hin
  have hs3 := hs2 (by omega)
  refine wp_skip (hK25 _ _ ?_)
  refine rg mixed y27 zz27 ?_
  refine .mb rfl e5 ?_
  refine .mb rfl e0 ?_
  refine .mb rfl e6 ?_
  refine .rf (sp_indexV (i := k) ((hlc rfl).dat D_v sub_all) (hlc rfl) Try.underlying31 sz33 rfl hlt) ?_
  refine .rf (X := SA w S []) (e := valsD ((xs[k]'hlt).xs)) (sp_fieldV (hlc rfl) Try.underlying33 rfl sz31 rfl rfl) ?_
  refine .da (X := SA w S []) (e := valsD ((xs[k]'hlt).xs)) (sp_loadR (hlc rfl) agg31 sz31 rfl) ?_
  refine .mb rfl e1 ?_
  refine .i (sp_add (hlc rfl) Has.cst (i64_in (by omega))) ?_
  refine .i (v := (.int .i64 (szL ((xs[k]'hlt).xs) (deep + 1) 0))) (sp_call2 (φ1 := IsD (SA w S []) (valsD ((xs[k]'hlt).xs))) (φ2 := Is (.int .i64 (((deep : Nat) : Int) + (1 : Int)))) ent81 (hlc rfl) (hlc rfl) (fun g u1 u2 W hk hgk h1 h2 => by have h2 : u2 = _ := h2; subst u2; exact ih ((xs[k]'hlt).xs) (by omega) (deep + 1) (by omega) W _ _ h1)) ?_
  refine .i (sp_add (hlc rfl) (hlc rfl) (i64_in (by omega))) ?_
  refine .al rfl ?_
  refine .dn fun a30 g W30 y30 zz30 hk hg hV hR hP => ?_
  obtain ⟨e5, -, -, -, -, -, -, -, -, -, -, -⟩ := hV
  replace e0 := ft hR e0
  replace e1 := ft hR e1
  replace e6 := ft hR e6
  replace D_v := D_v.ext hk
  replace e5 := e5.q
  replace kw := kw.x hk
  clear hR hk hg hP
  refine zn (hK12 _ _ ?_)
  refine rg mixed y30 zz30 ?_
  refine .mb rfl e6 ?_
  refine .i (sp_add (hlc rfl) Has.cst (i64_in (by omega))) ?_
  refine .al rfl ?_
  refine .dn fun a31 g W31 y31 zz31 hk hg hV hR hP => ?_
  obtain ⟨e6, -, -, -⟩ := hV
  replace e0 := ft hR e0
  replace e1 := ft hR e1
  replace e5 := ft hR e5
  replace D_v := D_v.ext hk
  replace e6 := e6.q
  replace kw := kw.x hk
  clear hR hk hg hP
  exact tail_nil ⟨hlt, (n3 + szL (xs[k]'hlt).xs (deep + 1) 0), y31, zz31, kw, e0, e1, (e5.trans (congrArg (Value.int .i64) (by push_cast; omega))), (e6.trans (congrArg (Value.int .i64) (by simp))), D_v, hin⟩
 have hfin : szL xs deep 0 = n2 := by
  rw [hin]; simp at hc
  by_cases hlt : k < xs.length
  · exact szL_big _ _ (by have := hc hlt; omega)
  · rw [List.drop_eq_nil_of_le (by omega)]; rfl
 refine wp_exit (hK5 _ _ ?_)
 refine zq fun K32 hK32 => ?_
 refine rg mixed y11 zz11 ?_
 refine .mb rfl e5 ?_
 refine .al rfl ?_
 refine .dn fun a33 g W33 y33 zz33 hk hg hV hR hP => ?_
 obtain ⟨e4, -, -⟩ := hV
 replace D_v := D_v.ext hk
 replace e4 := e4.q
 replace kw := kw.x hk
 clear hR hk hg hP
 refine zn (hK32 _ _ ?_)
 refine wp_ret ?_
 refine ret1 rfl zz33 e4 ⟨_, rfl, kw, ?_⟩
 first | rw [hfin] | (rw [hin]; rfl)
set_option maxRecDepth 100000 in
theorem Long_ok (xs : List V) (w : World) (S : BSet) (v : Value) (hv : Rd w S (valsD xs) v) : Calls Try.prog 26 #[v] w (Ret w fun u _ => u = .bool (decide (20000 ≤ szL xs 0 0))) := by
 obtain ⟨va, vc, ev, D_v⟩ := rdVs_out (rd_arg hv)
 subst ev
 refine enter Try.func26 rfl Try.ntmps26 (lbr rfl) fun a0 y0 zz0 harg => ?_
 have e0 : sl a0 0 = (.slice va (xs.length) vc) := harg 0 (lbr rfl)
 have kw := Keeps.refl All w
 clear harg
 refine zq fun K1 hK1 => ?_
 refine rg mixed y0 zz0 ?_
 refine .ac ?_
 refine .dn fun a2 g W2 y2 zz2 hk hg hV hR hP => ?_
 obtain ⟨-, -⟩ := hV
 replace e0 := ft hR e0
 replace D_v := D_v.ext hk
 replace kw := kw.x hk
 clear hR hk hg hP
 refine zn (hK1 _ _ ?_)
 refine zq fun K3 hK3 => ?_
 refine rg mixed y2 zz2 ?_
 refine .mb rfl e0 ?_
 refine .i (v := (.int .i64 (szL (xs) 0 0))) (sp_call2 (φ1 := IsD (SA w S []) (valsD (xs))) (φ2 := Is (.int .i64 (0))) ent81 ((hlc rfl).dat D_v sub_all) Has.cst (fun g u1 u2 W hk hgk h1 h2 => by have h2 : u2 = _ := h2; subst u2; exact size_all _ (xs) (Nat.lt_succ_self _) 0 (by omega) W _ _ h1)) ?_
 refine .i (sp_geq (hlc rfl) Has.cst) ?_
 refine .al rfl ?_
 refine .dn fun a4 g W4 y4 zz4 hk hg hV hR hP => ?_
 obtain ⟨e2, -, -, -, -⟩ := hV
 replace D_v := D_v.ext hk
 replace e2 := e2.q
 replace kw := kw.x hk
 clear hR hk hg hP
 refine zn (hK3 _ _ ?_)
 refine wp_ret ?_
 refine ret1 rfl zz4 e2 ⟨_, rfl, kw, ?_⟩
 congr 1; exact decide_eq_decide.2 (by omega)
set_option maxRecDepth 100000 in
theorem endless_all : ∀ (n : Nat) (xs : List V), V.cnts xs < n → ∀ (level : Int), 0 ≤ level → level + n ≤ 4294967296 → ∀ (nested : Bool) (p : Value) (w : World) (S : BSet) (v : Value), (∀ b o, S b o → Cln o) → Rd w S (valsD xs) v → Above w S xs p →
    Calls Try.prog 137 #[v, .int .i64 level, p, .bool nested] w (Ret w fun u _ => u = .bool false) := by
  intro n
  induction n with
  | zero => intro xs hx; omega
  | succ n ih =>
  intro xs hx level hl0 hl nested p w S v hS hv hab
  have hmx : xs.length ≤ maxLen := rd_len hv
  simp only [maxLen] at hmx
  rcases hab with rfl | ⟨y, hy, hcy⟩
  · skip
    obtain ⟨va, vc, ev, D_v⟩ := rdVs_out (rd_arg hv)
    subst ev
    refine enter Try.func137 rfl Try.ntmps137 (lbr rfl) fun a0 y0 zz0 harg => ?_
    have e0 : sl a0 0 = (.slice va (xs.length) vc) := harg 0 (lbr rfl)
    have e1 : sl a0 1 = (.int .i64 (level)) := harg 1 (lbr rfl)
    have e2 : sl a0 2 = (.pointer none) := harg 2 (lbr rfl)
    have e3 : sl a0 3 = (.bool (nested)) := harg 3 (lbr rfl)
    have kw := Keeps.refl All w
    clear harg
    refine zq fun K1 hK1 => ?_
    refine rg mixed y0 zz0 ?_
    refine .ac ?_
    refine .dn fun a2 g W2 y2 zz2 hk hg hV hR hP => ?_
    obtain ⟨-, -⟩ := hV
    replace e0 := ft hR e0
    replace e1 := ft hR e1
    replace e2 := ft hR e2
    replace e3 := ft hR e3
    replace D_v := D_v.ext hk
    replace kw := kw.x hk
    clear hR hk hg hP
    refine zn (hK1 _ _ ?_)
    refine zq fun K3 hK3 => ?_
    refine zq fun K4 hK4 => ?_
    refine rg mixed y2 zz2 ?_
    refine .mb rfl e0 ?_
    refine .i (sp_lenVs Try.underlying31 ((hlc rfl).dat D_v sub_all)) ?_
    refine .i (sp_move Has.cst) ?_
    refine .dn fun a5 g W5 y5 zz5 hk hg hV hR hP => ?_
    obtain ⟨e14, e13, -, -⟩ := hV
    replace e0 := ft hR e0
    replace e1 := ft hR e1
    replace e2 := ft hR e2
    replace e3 := ft hR e3
    replace D_v := D_v.ext hk
    replace e13 := e13.q
    replace e14 := e14.q
    replace kw := kw.x hk
    clear hR hk hg hP
    refine zn (hK4 _ _ ?_)
    refine wp_block ?_
    refine wp_for (xs.length) (fun k a W => a.tmps.size = 55 ∧ a.defers = [] ∧ Keeps All w W ∧ sl a 0 = (.slice va (xs.length) vc) ∧ sl a 1 = (.int .i64 (level)) ∧ sl a 2 = (.pointer none) ∧ sl a 3 = (.bool (nested)) ∧ sl a 13 = (.int .i64 (xs.length)) ∧ sl a 14 = (.int .i64 ((k : Nat))) ∧ Rd W (SA w S []) (valsD (xs)) (.slice va (xs.length) vc)) ⟨y5, zz5, kw, e0, e1, e2, e3, e13, (e14.trans (congrArg (Value.int .i64) (rfl))), D_v⟩ ?_
    clear kw e0 e1 e2 e3 e13 e14 D_v
    rintro k a6 W6 hkk ⟨y6, zz6, kw, e0, e1, e2, e3, e13, e14, D_v⟩
    refine zq fun K7 hK7 => ?_
    refine rg mixed y6 zz6 ?_
    refine .i (sp_lss (hbs rfl e14) (hbs rfl e13)) ?_
    refine .dn fun a8 g W8 y8 zz8 hk hg hV hR hP => ?_
    obtain ⟨e15, -⟩ := hV
    replace e0 := ft hR e0
    replace e1 := ft hR e1
    replace e2 := ft hR e2
    replace e3 := ft hR e3
    replace e13 := ft hR e13
    replace e14 := ft hR e14
    replace D_v := D_v.ext hk
    replace e15 := e15.q
    replace kw := kw.x hk
    clear hR hk hg hP
    refine zn (hK7 _ _ ?_)
    refine zq fun K9 hK9 => ?_
    refine zc e15 (fun hc => ?_) (fun hc => ?_)
    ·
     have hlt : k < xs.length := by simpa using hc
     have hce := cnt_elem hlt
     have hcq := cnt_eq xs[k]
     refine wp_skip (hK9 _ _ ?_)
     refine zq fun K10 hK10 => ?_
     refine wp_block ?_
     refine zq fun K11 hK11 => ?_
     refine rg mixed y8 zz8 ?_
     refine .mb rfl e14 ?_
     refine .al rfl ?_
     refine .dn fun a12 g W12 y12 zz12 hk hg hV hR hP => ?_
     obtain ⟨e9, -, -⟩ := hV
     replace e0 := ft hR e0
     replace e1 := ft hR e1
     replace e2 := ft hR e2
     replace e3 := ft hR e3
     replace e13 := ft hR e13
     replace e14 := ft hR e14
     replace D_v := D_v.ext hk
     replace e9 := e9.q
     replace kw := kw.x hk
     clear hR hk hg hP
     refine zn (hK11 _ _ ?_)
     refine zq fun K13 hK13 => ?_
     refine rg mixed y12 zz12 ?_
     refine .mb rfl e0 ?_
     refine .mb rfl e9 ?_
     refine .rf (sp_indexV (i := k) ((hlc rfl).dat D_v sub_all) (hlc rfl) Try.underlying31 sz33 rfl hlt) ?_
     refine .rf (X := SA w S []) (e := V.d (xs[k]'hlt)) (sp_assign (hlc rfl)) ?_
     refine .dn fun a14 g W14 y14 zz14 hk hg hV hR hP => ?_
     obtain ⟨e10, -, -, -, -⟩ := hV
     replace e0 := ft hR e0
     replace e1 := ft hR e1
     replace e2 := ft hR e2
     replace e3 := ft hR e3
     replace e13 := ft hR e13
     replace e14 := ft hR e14
     replace D_v := D_v.ext hk
     obtain ⟨v10_14, ev⟩ : ∃ v, sl a14 10 = v := ⟨_, rfl⟩
     rw [ev] at e10
     have D_v10_14 : Ref W14 (SA w S []) (V.d (xs[k]'hlt)) v10_14 := rsa_end e10 hk [] in_nil
     replace e10 := ev; clear ev
     replace kw := kw.x hk
     clear hR hk hg hP
     refine zn (hK13 _ _ ?_)
     refine zq fun K15 hK15 => ?_
     refine zq fun K16 hK16 => ?_
     refine rg mixed y14 zz14 ?_
     refine .mb rfl e3 ?_
     refine .i (sp_move (hlc rfl)) ?_
     refine .em rfl (hlc rfl) rfl e10 ?_
     refine .opE (t := 21) (φ := IsR (SA w S []) (V.d (xs[k]'hlt))) rfl (hlc rfl) (st_r sub_all) (fun hg => sp_nilR (((hlc rfl).undE hg).refd D_v10_14 sub_all)) ?_
     refine .opE (t := 21) (φ := IsR (SA w S []) (D.int .u8 ((xs[k]'hlt).k))) rfl (hlc rfl) (st_r sub_all) (fun hg => sp_fieldV ((hlc rfl).undE hg) Try.underlying33 rfl sz5 rfl rfl) ?_
     refine .e rfl (hlc rfl) (fun hg => sp_loadInt ((hlc rfl).undE hg) agg5 sz5) ?_
     refine .e rfl (hlc rfl) (fun hg => sp_neq ((hlc rfl).undE hg) Has.cst) ?_
     refine .i (sp_and (hlc rfl) ((hlc rfl).weak fun hq => hq)) ?_
     refine .i (sp_move (hlc rfl)) ?_
     refine .em rfl (hlc rfl) rfl e10 ?_
     refine .opE (t := 28) (φ := IsR (SA w S []) (V.d (xs[k]'hlt))) rfl (hlc rfl) (st_r sub_all) (fun hg => sp_nilR (((hlc rfl).undE hg).refd D_v10_14 sub_all)) ?_
     refine .opE (t := 28) (φ := IsR (SA w S []) (D.int .u8 ((xs[k]'hlt).k))) rfl (hlc rfl) (st_r sub_all) (fun hg => sp_fieldV ((hlc rfl).undE hg) Try.underlying33 rfl sz5 rfl rfl) ?_
     refine .e rfl (hlc rfl) (fun hg => sp_loadInt ((hlc rfl).undE hg) agg5 sz5) ?_
     refine .e rfl (hlc rfl) (fun hg => sp_neq ((hlc rfl).undE hg) Has.cst) ?_
     refine .i (sp_and (hlc rfl) ((hlc rfl).weak fun hq => hq)) ?_
     refine .dn fun a17 g W17 y17 zz17 hk hg hV hR hP => ?_
     obtain ⟨e34, -, -, -, -, -, -, -, -, -, -, -, -, -, -, -⟩ := hV
     replace e0 := ft hR e0
     replace e1 := ft hR e1
     replace e2 := ft hR e2
     replace e3 := ft hR e3
     replace e13 := ft hR e13
     replace e14 := ft hR e14
     replace e10 := ft hR e10
     replace D_v := D_v.ext hk
     replace D_v10_14 := D_v10_14.ext hk
     replace e34 := e34.q
     replace kw := kw.x hk
     clear hR hk hg hP
     refine zn (hK16 _ _ ?_)
     refine zc e34 (fun hc => ?_) (fun hc => ?_)
     ·
      refine wp_exit (hK10 _ _ ?_)
      refine rg mixed y17 zz17 ?_
      refine .i (sp_add (hbs rfl e14) Has.cst (i64_in (by omega))) ?_
      refine .i (sp_move (hlc rfl)) ?_
      refine .dn fun a18 g W18 y18 zz18 hk hg hV hR hP => ?_
      obtain ⟨e14, -, -⟩ := hV
      replace e0 := ft hR e0
      replace e1 := ft hR e1
      replace e2 := ft hR e2
      replace e3 := ft hR e3
      replace e13 := ft hR e13
      replace D_v := D_v.ext hk
      replace D_v10_14 := D_v10_14.ext hk
      replace e14 := e14.q
      replace kw := kw.x hk
      clear hR hk hg hP
      exact tail_nil ⟨hlt, y18, zz18, kw, e0, e1, e2, e3, e13, (e14.trans (congrArg (Value.int .i64) (by simp))), D_v⟩
     refine wp_skip (hK15 _ _ ?_)
     refine zq fun K19 hK19 => ?_
     refine zq fun K20 hK20 => ?_
     refine rg mixed y17 zz17 ?_
     refine .mb rfl e10 ?_
     refine .mb rfl e2 ?_
     refine .i (v := (.bool (false))) (sp_refNil Try.underlying186 ((hlc rfl).refd D_v10_14 sub_all) (hlc rfl)) ?_
     refine .dn fun a21 g W21 y21 zz21 hk hg hV hR hP => ?_
     obtain ⟨e37, -, -, -⟩ := hV
     replace e0 := ft hR e0
     replace e1 := ft hR e1
     replace e2 := ft hR e2
     replace e3 := ft hR e3
     replace e13 := ft hR e13
     replace e14 := ft hR e14
     replace e10 := ft hR e10
     replace D_v := D_v.ext hk
     replace D_v10_14 := D_v10_14.ext hk
     replace e37 := e37.q
     replace kw := kw.x hk
     clear hR hk hg hP
     refine zn (hK20 _ _ ?_)
     refine wp_cond_false e37 ?_
     refine wp_skip (hK19 _ _ ?_)
     refine zq fun K22 hK22 => ?_
     refine rg mixed y21 zz21 ?_
     refine .mb rfl e2 ?_
     refine .al rfl ?_
     refine .dn fun a23 g W23 y23 zz23 hk hg hV hR hP => ?_
     obtain ⟨e11, -, -⟩ := hV
     replace e0 := ft hR e0
     replace e1 := ft hR e1
     replace e2 := ft hR e2
     replace e3 := ft hR e3
     replace e13 := ft hR e13
     replace e14 := ft hR e14
     replace e10 := ft hR e10
     replace D_v := D_v.ext hk
     replace D_v10_14 := D_v10_14.ext hk
     have e11 : sl a23 11 = (.pointer none) := e11
     replace kw := kw.x hk
     clear hR hk hg hP
     refine zn (hK22 _ _ ?_)
     refine zq fun K24 hK24 => ?_
     refine zq fun K25 hK25 => ?_
     refine rg mixed y23 zz23 ?_
     refine .mb rfl e1 ?_
     refine .mb rfl e1 ?_
     refine .i (sp_sub (hlc rfl) Has.cst (i64_in (by omega))) ?_
     refine .i (sp_band (hlc rfl) (hlc rfl)) ?_
     refine .i (sp_eql (hlc rfl) Has.cst) ?_
     refine .dn fun a26 g W26 y26 zz26 hk hg hV hR hP => ?_
     obtain ⟨e43, -, -, -, -, -⟩ := hV
     replace e0 := ft hR e0
     replace e1 := ft hR e1
     replace e2 := ft hR e2
     replace e3 := ft hR e3
     replace e13 := ft hR e13
     replace e14 := ft hR e14
     replace e10 := ft hR e10
     replace e11 := ft hR e11
     replace D_v := D_v.ext hk
     replace D_v10_14 := D_v10_14.ext hk
     replace e43 := e43.q
     replace kw := kw.x hk
     clear hR hk hg hP
     refine zn (hK25 _ _ ?_)
     refine zc e43 (fun hc => ?_) (fun hc => ?_)
     ·
      refine rg mixed y26 zz26 ?_
      refine .mb rfl e10 ?_
      refine .al rfl ?_
      refine .dn fun a27 g W27 y27 zz27 hk hg hV hR hP => ?_
      obtain ⟨e11, -, -⟩ := hV
      replace e0 := ft hR e0
      replace e1 := ft hR e1
      replace e2 := ft hR e2
      replace e3 := ft hR e3
      replace e13 := ft hR e13
      replace e14 := ft hR e14
      replace e10 := ft hR e10
      replace D_v := D_v.ext hk
      replace D_v10_14 := D_v10_14.ext hk
      have e11 : sl a27 11 = v10_14 := e11
      replace kw := kw.x hk
      clear hR hk hg hP
      refine zn (hK24 _ _ ?_)
      refine zq fun K28 hK28 => ?_
      refine rg mixed y27 zz27 ?_
      refine .mb rfl e10 ?_
      refine .rf (sp_nilR ((hlc rfl).refd D_v10_14 sub_all)) ?_
      refine .rf (X := SA w S []) (e := valsD ((xs[k]'hlt).xs)) (sp_fieldV (hlc rfl) Try.underlying33 rfl sz31 rfl rfl) ?_
      refine .da (X := SA w S []) (e := valsD ((xs[k]'hlt).xs)) (sp_loadR (hlc rfl) agg31 sz31 rfl) ?_
      refine .mb rfl e1 ?_
      refine .i (sp_add (hlc rfl) Has.cst (i64_in (by omega))) ?_
      refine .mb rfl e11 ?_
      refine .mb rfl e3 ?_
      refine .i (v := (.bool (false))) (sp_call4 (φ1 := IsD (SA w S []) (valsD ((xs[k]'hlt).xs))) (φ2 := Is (.int .i64 ((level : Int) + (1 : Int)))) (φ3 := IsR (SA w S []) (V.d (xs[k]'hlt))) (φ4 := Is (.bool (nested))) ent137 (hlc rfl) (hlc rfl) ((hlc rfl).refd D_v10_14 sub_all) (hlc rfl) (fun g u1 u2 u3 u4 W hk hgk h1 h2 h3 h4 => by have h2 : u2 = _ := h2; subst u2; have h4 : u4 = _ := h4; subst u4; exact ih ((xs[k]'hlt).xs) (by omega) ((level : Int) + (1 : Int)) (by omega) (by omega) (nested) _ W _ _ (fun b o h => sa_cln hS b o h.1) h1 (Or.inr ⟨_, h3, by omega⟩))) ?_
      refine .dn fun a29 g W29 y29 zz29 hk hg hV hR hP => ?_
      obtain ⟨e53, -, -, -, -, -, -, -, -, -⟩ := hV
      replace e0 := ft hR e0
      replace e1 := ft hR e1
      replace e2 := ft hR e2
      replace e3 := ft hR e3
      replace e13 := ft hR e13
      replace e14 := ft hR e14
      replace D_v := D_v.ext hk
      replace D_v10_14 := D_v10_14.ext hk
      replace e53 := e53.q
      replace kw := kw.x hk
      clear hR hk hg hP
      refine zn (hK28 _ _ ?_)
      refine wp_cond_false e53 ?_
      refine wp_skip (hK10 _ _ ?_)
      refine rg mixed y29 zz29 ?_
      refine .i (sp_add (hbs rfl e14) Has.cst (i64_in (by omega))) ?_
      refine .i (sp_move (hlc rfl)) ?_
      refine .dn fun a30 g W30 y30 zz30 hk hg hV hR hP => ?_
      obtain ⟨e14, -, -⟩ := hV
      replace e0 := ft hR e0
      replace e1 := ft hR e1
      replace e2 := ft hR e2
      replace e3 := ft hR e3
      replace e13 := ft hR e13
      replace D_v := D_v.ext hk
      replace e14 := e14.q
      replace kw := kw.x hk
      clear hR hk hg hP
      exact tail_nil ⟨hlt, y30, zz30, kw, e0, e1, e2, e3, e13, (e14.trans (congrArg (Value.int .i64) (by simp))), D_v⟩
     refine wp_skip (hK24 _ _ ?_)
     refine zq fun K31 hK31 => ?_
     refine rg mixed y26 zz26 ?_
     refine .mb rfl e10 ?_
     refine .rf (sp_nilR ((hlc rfl).refd D_v10_14 sub_all)) ?_
     refine .rf (X := SA w S []) (e := valsD ((xs[k]'hlt).xs)) (sp_fieldV (hlc rfl) Try.underlying33 rfl sz31 rfl rfl) ?_
     refine .da (X := SA w S []) (e := valsD ((xs[k]'hlt).xs)) (sp_loadR (hlc rfl) agg31 sz31 rfl) ?_
     refine .mb rfl e1 ?_
     refine .i (sp_add (hlc rfl) Has.cst (i64_in (by omega))) ?_
     refine .mb rfl e11 ?_
     refine .mb rfl e3 ?_
     refine .i (v := (.bool (false))) (sp_call4 (φ1 := IsD (SA w S []) (valsD ((xs[k]'hlt).xs))) (φ2 := Is (.int .i64 ((level : Int) + (1 : Int)))) (φ3 := Is (.pointer none)) (φ4 := Is (.bool (nested))) ent137 (hlc rfl) (hlc rfl) (hlc rfl) (hlc rfl) (fun g u1 u2 u3 u4 W hk hgk h1 h2 h3 h4 => by have h2 : u2 = _ := h2; subst u2; have h3 : u3 = _ := h3; subst u3; have h4 : u4 = _ := h4; subst u4; exact ih ((xs[k]'hlt).xs) (by omega) ((level : Int) + (1 : Int)) (by omega) (by omega) (nested) _ W _ _ (fun b o h => sa_cln hS b o h.1) h1 (Or.inl rfl))) ?_
     refine .dn fun a32 g W32 y32 zz32 hk hg hV hR hP => ?_
     obtain ⟨e53, -, -, -, -, -, -, -, -, -⟩ := hV
     replace e0 := ft hR e0
     replace e1 := ft hR e1
     replace e2 := ft hR e2
     replace e3 := ft hR e3
     replace e13 := ft hR e13
     replace e14 := ft hR e14
     replace D_v := D_v.ext hk
     replace D_v10_14 := D_v10_14.ext hk
     replace e53 := e53.q
     replace kw := kw.x hk
     clear hR hk hg hP
     refine zn (hK31 _ _ ?_)
     refine wp_cond_false e53 ?_
     refine wp_skip (hK10 _ _ ?_)
     refine rg mixed y32 zz32 ?_
     refine .i (sp_add (hbs rfl e14) Has.cst (i64_in (by omega))) ?_
     refine .i (sp_move (hlc rfl)) ?_
     refine .dn fun a33 g W33 y33 zz33 hk hg hV hR hP => ?_
     obtain ⟨e14, -, -⟩ := hV
     replace e0 := ft hR e0
     replace e1 := ft hR e1
     replace e2 := ft hR e2
     replace e3 := ft hR e3
     replace e13 := ft hR e13
     replace D_v := D_v.ext hk
     replace e14 := e14.q
     replace kw := kw.x hk
     clear hR hk hg hP
     exact tail_nil ⟨hlt, y33, zz33, kw, e0, e1, e2, e3, e13, (e14.trans (congrArg (Value.int .i64) (by simp))), D_v⟩
    have hge0 : ¬ k < xs.length := by simpa using hc
    have hge : k = xs.length := by omega
    refine wp_exit (hK3 _ _ ?_)
    refine zq fun K34 hK34 => ?_
    refine rg mixed y8 zz8 ?_
    refine .ac ?_
    refine .dn fun a35 g W35 y35 zz35 hk hg hV hR hP => ?_
    obtain ⟨e8, -⟩ := hV
    replace D_v := D_v.ext hk
    replace e8 := e8.q
    replace kw := kw.x hk
    clear hR hk hg hP
    refine zn (hK34 _ _ ?_)
    refine wp_ret ?_
    refine ret1 rfl zz35 e8 ⟨_, rfl, kw, ?_⟩
    exact rfl
  · skip
    obtain ⟨va, vc, ev, D_v⟩ := rdVs_out (rd_arg hv)
    subst ev
    have D_p := ref_arg hy
    refine enter Try.func137 rfl Try.ntmps137 (lbr rfl) fun a0 y0 zz0 harg => ?_
    have e0 : sl a0 0 = (.slice va (xs.length) vc) := harg 0 (lbr rfl)
    have e1 : sl a0 1 = (.int .i64 (level)) := harg 1 (lbr rfl)
    have e2 : sl a0 2 = p := harg 2 (lbr rfl)
    have e3 : sl a0 3 = (.bool (nested)) := harg 3 (lbr rfl)
    have kw := Keeps.refl All w
    clear harg
    refine zq fun K1 hK1 => ?_
    refine rg mixed y0 zz0 ?_
    refine .ac ?_
    refine .dn fun a2 g W2 y2 zz2 hk hg hV hR hP => ?_
    obtain ⟨-, -⟩ := hV
    replace e0 := ft hR e0
    replace e1 := ft hR e1
    replace e2 := ft hR e2
    replace e3 := ft hR e3
    replace D_v := D_v.ext hk
    replace D_p := D_p.ext hk
    replace kw := kw.x hk
    clear hR hk hg hP
    refine zn (hK1 _ _ ?_)
    refine zq fun K3 hK3 => ?_
    refine zq fun K4 hK4 => ?_
    refine rg mixed y2 zz2 ?_
    refine .mb rfl e0 ?_
    refine .i (sp_lenVs Try.underlying31 ((hlc rfl).dat D_v sub_all)) ?_
    refine .i (sp_move Has.cst) ?_
    refine .dn fun a5 g W5 y5 zz5 hk hg hV hR hP => ?_
    obtain ⟨e14, e13, -, -⟩ := hV
    replace e0 := ft hR e0
    replace e1 := ft hR e1
    replace e2 := ft hR e2
    replace e3 := ft hR e3
    replace D_v := D_v.ext hk
    replace D_p := D_p.ext hk
    replace e13 := e13.q
    replace e14 := e14.q
    replace kw := kw.x hk
    clear hR hk hg hP
    refine zn (hK4 _ _ ?_)
    refine wp_block ?_
    refine wp_for (xs.length) (fun k a W => a.tmps.size = 55 ∧ a.defers = [] ∧ Keeps All w W ∧ sl a 0 = (.slice va (xs.length) vc) ∧ sl a 1 = (.int .i64 (level)) ∧ sl a 2 = p ∧ sl a 3 = (.bool (nested)) ∧ sl a 13 = (.int .i64 (xs.length)) ∧ sl a 14 = (.int .i64 ((k : Nat))) ∧ Rd W (SA w S []) (valsD (xs)) (.slice va (xs.length) vc) ∧ Ref W (SA w S []) (V.d (y)) p) ⟨y5, zz5, kw, e0, e1, e2, e3, e13, (e14.trans (congrArg (Value.int .i64) (rfl))), D_v, D_p⟩ ?_
    clear kw e0 e1 e2 e3 e13 e14 D_v D_p
    rintro k a6 W6 hkk ⟨y6, zz6, kw, e0, e1, e2, e3, e13, e14, D_v, D_p⟩
    refine zq fun K7 hK7 => ?_
    refine rg mixed y6 zz6 ?_
    refine .i (sp_lss (hbs rfl e14) (hbs rfl e13)) ?_
    refine .dn fun a8 g W8 y8 zz8 hk hg hV hR hP => ?_
    obtain ⟨e15, -⟩ := hV
    replace e0 := ft hR e0
    replace e1 := ft hR e1
    replace e2 := ft hR e2
    replace e3 := ft hR e3
    replace e13 := ft hR e13
    replace e14 := ft hR e14
    replace D_v := D_v.ext hk
    replace D_p := D_p.ext hk
    replace e15 := e15.q
    replace kw := kw.x hk
    clear hR hk hg hP
    refine zn (hK7 _ _ ?_)
    refine zq fun K9 hK9 => ?_
    refine zc e15 (fun hc => ?_) (fun hc => ?_)
    ·
     have hlt : k < xs.length := by simpa using hc
     have hce := cnt_elem hlt
     have hcq := cnt_eq xs[k]
     refine wp_skip (hK9 _ _ ?_)
     refine zq fun K10 hK10 => ?_
     refine wp_block ?_
     refine zq fun K11 hK11 => ?_
     refine rg mixed y8 zz8 ?_
     refine .mb rfl e14 ?_
     refine .al rfl ?_
     refine .dn fun a12 g W12 y12 zz12 hk hg hV hR hP => ?_
     obtain ⟨e9, -, -⟩ := hV
     replace e0 := ft hR e0
     replace e1 := ft hR e1
     replace e2 := ft hR e2
     replace e3 := ft hR e3
     replace e13 := ft hR e13
     replace e14 := ft hR e14
     replace D_v := D_v.ext hk
     replace D_p := D_p.ext hk
     replace e9 := e9.q
     replace kw := kw.x hk
     clear hR hk hg hP
     refine zn (hK11 _ _ ?_)
     refine zq fun K13 hK13 => ?_
     refine rg mixed y12 zz12 ?_
     refine .mb rfl e0 ?_
     refine .mb rfl e9 ?_
     refine .rf (sp_indexV (i := k) ((hlc rfl).dat D_v sub_all) (hlc rfl) Try.underlying31 sz33 rfl hlt) ?_
     refine .rf (X := SA w S []) (e := V.d (xs[k]'hlt)) (sp_assign (hlc rfl)) ?_
     refine .dn fun a14 g W14 y14 zz14 hk hg hV hR hP => ?_
     obtain ⟨e10, -, -, -, -⟩ := hV
     replace e0 := ft hR e0
     replace e1 := ft hR e1
     replace e2 := ft hR e2
     replace e3 := ft hR e3
     replace e13 := ft hR e13
     replace e14 := ft hR e14
     replace D_v := D_v.ext hk
     replace D_p := D_p.ext hk
     obtain ⟨v10_14, ev⟩ : ∃ v, sl a14 10 = v := ⟨_, rfl⟩
     rw [ev] at e10
     have D_v10_14 : Ref W14 (SA w S []) (V.d (xs[k]'hlt)) v10_14 := rsa_end e10 hk [] in_nil
     replace e10 := ev; clear ev
     replace kw := kw.x hk
     clear hR hk hg hP
     refine zn (hK13 _ _ ?_)
     refine zq fun K15 hK15 => ?_
     refine zq fun K16 hK16 => ?_
     refine rg mixed y14 zz14 ?_
     refine .mb rfl e3 ?_
     refine .i (sp_move (hlc rfl)) ?_
     refine .em rfl (hlc rfl) rfl e10 ?_
     refine .opE (t := 21) (φ := IsR (SA w S []) (V.d (xs[k]'hlt))) rfl (hlc rfl) (st_r sub_all) (fun hg => sp_nilR (((hlc rfl).undE hg).refd D_v10_14 sub_all)) ?_
     refine .opE (t := 21) (φ := IsR (SA w S []) (D.int .u8 ((xs[k]'hlt).k))) rfl (hlc rfl) (st_r sub_all) (fun hg => sp_fieldV ((hlc rfl).undE hg) Try.underlying33 rfl sz5 rfl rfl) ?_
     refine .e rfl (hlc rfl) (fun hg => sp_loadInt ((hlc rfl).undE hg) agg5 sz5) ?_
     refine .e rfl (hlc rfl) (fun hg => sp_neq ((hlc rfl).undE hg) Has.cst) ?_
     refine .i (sp_and (hlc rfl) ((hlc rfl).weak fun hq => hq)) ?_
     refine .i (sp_move (hlc rfl)) ?_
     refine .em rfl (hlc rfl) rfl e10 ?_
     refine .opE (t := 28) (φ := IsR (SA w S []) (V.d (xs[k]'hlt))) rfl (hlc rfl) (st_r sub_all) (fun hg => sp_nilR (((hlc rfl).undE hg).refd D_v10_14 sub_all)) ?_
     refine .opE (t := 28) (φ := IsR (SA w S []) (D.int .u8 ((xs[k]'hlt).k))) rfl (hlc rfl) (st_r sub_all) (fun hg => sp_fieldV ((hlc rfl).undE hg) Try.underlying33 rfl sz5 rfl rfl) ?_
     refine .e rfl (hlc rfl) (fun hg => sp_loadInt ((hlc rfl).undE hg) agg5 sz5) ?_
     refine .e rfl (hlc rfl) (fun hg => sp_neq ((hlc rfl).undE hg) Has.cst) ?_
     refine .i (sp_and (hlc rfl) ((hlc rfl).weak fun hq => hq)) ?_
     refine .dn fun a17 g W17 y17 zz17 hk hg hV hR hP => ?_
     obtain ⟨e34, -, -, -, -, -, -, -, -, -, -, -, -, -, -, -⟩ := hV
     replace e0 := ft hR e0
     replace e1 := ft hR e1
     replace e2 := ft hR e2
     replace e3 := ft hR e3
     replace e13 := ft hR e13
     replace e14 := ft hR e14
     replace e10 := ft hR e10
     replace D_v := D_v.ext hk
     replace D_p := D_p.ext hk
     replace D_v10_14 := D_v10_14.ext hk
     replace e34 := e34.q
     replace kw := kw.x hk
     clear hR hk hg hP
     refine zn (hK16 _ _ ?_)
     refine zc e34 (fun hc => ?_) (fun hc => ?_)
     ·
      refine wp_exit (hK10 _ _ ?_)
      refine rg mixed y17 zz17 ?_
      refine .i (sp_add (hbs rfl e14) Has.cst (i64_in (by omega))) ?_
      refine .i (sp_move (hlc rfl)) ?_
      refine .dn fun a18 g W18 y18 zz18 hk hg hV hR hP => ?_
      obtain ⟨e14, -, -⟩ := hV
      replace e0 := ft hR e0
      replace e1 := ft hR e1
      replace e2 := ft hR e2
      replace e3 := ft hR e3
      replace e13 := ft hR e13
      replace D_v := D_v.ext hk
      replace D_p := D_p.ext hk
      replace D_v10_14 := D_v10_14.ext hk
      replace e14 := e14.q
      replace kw := kw.x hk
      clear hR hk hg hP
      exact tail_nil ⟨hlt, y18, zz18, kw, e0, e1, e2, e3, e13, (e14.trans (congrArg (Value.int .i64) (by simp))), D_v, D_p⟩
     refine wp_skip (hK15 _ _ ?_)
     refine zq fun K19 hK19 => ?_
     refine zq fun K20 hK20 => ?_
     refine rg mixed y17 zz17 ?_
     refine .mb rfl e10 ?_
     refine .mb rfl e2 ?_
     refine .i (v := (.bool (false))) (sp_refEq Try.underlying186 sz33 ((hlc rfl).refd D_v10_14 sub_all) ((hlc rfl).refd D_p sub_all) (sa_cln hS) (sa_cln hS) (fun W X Y cs h1 h2 => by have := rdV_det _ _ cs h1 h2; have := congrArg V.cnt this; omega) (by rw [V.d_eq, V.d_eq]; rfl)) ?_
     refine .dn fun a21 g W21 y21 zz21 hk hg hV hR hP => ?_
     obtain ⟨e37, -, -, -⟩ := hV
     replace e0 := ft hR e0
     replace e1 := ft hR e1
     replace e2 := ft hR e2
     replace e3 := ft hR e3
     replace e13 := ft hR e13
     replace e14 := ft hR e14
     replace e10 := ft hR e10
     replace D_v := D_v.ext hk
     replace D_p := D_p.ext hk
     replace D_v10_14 := D_v10_14.ext hk
     replace e37 := e37.q
     replace kw := kw.x hk
     clear hR hk hg hP
     refine zn (hK20 _ _ ?_)
     refine wp_cond_false e37 ?_
     refine wp_skip (hK19 _ _ ?_)
     refine zq fun K22 hK22 => ?_
     refine rg mixed y21 zz21 ?_
     refine .mb rfl e2 ?_
     refine .al rfl ?_
     refine .dn fun a23 g W23 y23 zz23 hk hg hV hR hP => ?_
     obtain ⟨e11, -, -⟩ := hV
     replace e0 := ft hR e0
     replace e1 := ft hR e1
     replace e2 := ft hR e2
     replace e3 := ft hR e3
     replace e13 := ft hR e13
     replace e14 := ft hR e14
     replace e10 := ft hR e10
     replace D_v := D_v.ext hk
     replace D_p := D_p.ext hk
     replace D_v10_14 := D_v10_14.ext hk
     have e11 : sl a23 11 = p := e11
     replace kw := kw.x hk
     clear hR hk hg hP
     refine zn (hK22 _ _ ?_)
     refine zq fun K24 hK24 => ?_
     refine zq fun K25 hK25 => ?_
     refine rg mixed y23 zz23 ?_
     refine .mb rfl e1 ?_
     refine .mb rfl e1 ?_
     refine .i (sp_sub (hlc rfl) Has.cst (i64_in (by omega))) ?_
     refine .i (sp_band (hlc rfl) (hlc rfl)) ?_
     refine .i (sp_eql (hlc rfl) Has.cst) ?_
     refine .dn fun a26 g W26 y26 zz26 hk hg hV hR hP => ?_
     obtain ⟨e43, -, -, -, -, -⟩ := hV
     replace e0 := ft hR e0
     replace e1 := ft hR e1
     replace e2 := ft hR e2
     replace e3 := ft hR e3
     replace e13 := ft hR e13
     replace e14 := ft hR e14
     replace e10 := ft hR e10
     replace e11 := ft hR e11
     replace D_v := D_v.ext hk
     replace D_p := D_p.ext hk
     replace D_v10_14 := D_v10_14.ext hk
     replace e43 := e43.q
     replace kw := kw.x hk
     clear hR hk hg hP
     refine zn (hK25 _ _ ?_)
     refine zc e43 (fun hc => ?_) (fun hc => ?_)
     ·
      refine rg mixed y26 zz26 ?_
      refine .mb rfl e10 ?_
      refine .al rfl ?_
      refine .dn fun a27 g W27 y27 zz27 hk hg hV hR hP => ?_
      obtain ⟨e11, -, -⟩ := hV
      replace e0 := ft hR e0
      replace e1 := ft hR e1
      replace e2 := ft hR e2
      replace e3 := ft hR e3
      replace e13 := ft hR e13
      replace e14 := ft hR e14
      replace e10 := ft hR e10
      replace D_v := D_v.ext hk
      replace D_p := D_p.ext hk
      replace D_v10_14 := D_v10_14.ext hk
      have e11 : sl a27 11 = v10_14 := e11
      replace kw := kw.x hk
      clear hR hk hg hP
      refine zn (hK24 _ _ ?_)
      refine zq fun K28 hK28 => ?_
      refine rg mixed y27 zz27 ?_
      refine .mb rfl e10 ?_
      refine .rf (sp_nilR ((hlc rfl).refd D_v10_14 sub_all)) ?_
      refine .rf (X := SA w S []) (e := valsD ((xs[k]'hlt).xs)) (sp_fieldV (hlc rfl) Try.underlying33 rfl sz31 rfl rfl) ?_
      refine .da (X := SA w S []) (e := valsD ((xs[k]'hlt).xs)) (sp_loadR (hlc rfl) agg31 sz31 rfl) ?_
      refine .mb rfl e1 ?_
      refine .i (sp_add (hlc rfl) Has.cst (i64_in (by omega))) ?_
      refine .mb rfl e11 ?_
      refine .mb rfl e3 ?_
      refine .i (v := (.bool (false))) (sp_call4 (φ1 := IsD (SA w S []) (valsD ((xs[k]'hlt).xs))) (φ2 := Is (.int .i64 ((level : Int) + (1 : Int)))) (φ3 := IsR (SA w S []) (V.d (xs[k]'hlt))) (φ4 := Is (.bool (nested))) ent137 (hlc rfl) (hlc rfl) ((hlc rfl).refd D_v10_14 sub_all) (hlc rfl) (fun g u1 u2 u3 u4 W hk hgk h1 h2 h3 h4 => by have h2 : u2 = _ := h2; subst u2; have h4 : u4 = _ := h4; subst u4; exact ih ((xs[k]'hlt).xs) (by omega) ((level : Int) + (1 : Int)) (by omega) (by omega) (nested) _ W _ _ (fun b o h => sa_cln hS b o h.1) h1 (Or.inr ⟨_, h3, by omega⟩))) ?_
      refine .dn fun a29 g W29 y29 zz29 hk hg hV hR hP => ?_
      obtain ⟨e53, -, -, -, -, -, -, -, -, -⟩ := hV
      replace e0 := ft hR e0
      replace e1 := ft hR e1
      replace e2 := ft hR e2
      replace e3 := ft hR e3
      replace e13 := ft hR e13
      replace e14 := ft hR e14
      replace D_v := D_v.ext hk
      replace D_p := D_p.ext hk
      replace D_v10_14 := D_v10_14.ext hk
      replace e53 := e53.q
      replace kw := kw.x hk
      clear hR hk hg hP
      refine zn (hK28 _ _ ?_)
      refine wp_cond_false e53 ?_
      refine wp_skip (hK10 _ _ ?_)
      refine rg mixed y29 zz29 ?_
      refine .i (sp_add (hbs rfl e14) Has.cst (i64_in (by omega))) ?_
      refine .i (sp_move (hlc rfl)) ?_
      refine .dn fun a30 g W30 y30 zz30 hk hg hV hR hP => ?_
      obtain ⟨e14, -, -⟩ := hV
      replace e0 := ft hR e0
      replace e1 := ft hR e1
      replace e2 := ft hR e2
      replace e3 := ft hR e3
      replace e13 := ft hR e13
      replace D_v := D_v.ext hk
      replace D_p := D_p.ext hk
      replace e14 := e14.q
      replace kw := kw.x hk
      clear hR hk hg hP
      exact tail_nil ⟨hlt, y30, zz30, kw, e0, e1, e2, e3, e13, (e14.trans (congrArg (Value.int .i64) (by simp))), D_v, D_p⟩
     refine wp_skip (hK24 _ _ ?_)
     refine zq fun K31 hK31 => ?_
     refine rg mixed y26 zz26 ?_
     refine .mb rfl e10 ?_
     refine .rf (sp_nilR ((hlc rfl).refd D_v10_14 sub_all)) ?_
     refine .rf (X := SA w S []) (e := valsD ((xs[k]'hlt).xs)) (sp_fieldV (hlc rfl) Try.underlying33 rfl sz31 rfl rfl) ?_
     refine .da (X := SA w S []) (e := valsD ((xs[k]'hlt).xs)) (sp_loadR (hlc rfl) agg31 sz31 rfl) ?_
     refine .mb rfl e1 ?_
     refine .i (sp_add (hlc rfl) Has.cst (i64_in (by omega))) ?_
     refine .mb rfl e11 ?_
     refine .mb rfl e3 ?_
     refine .i (v := (.bool (false))) (sp_call4 (φ1 := IsD (SA w S []) (valsD ((xs[k]'hlt).xs))) (φ2 := Is (.int .i64 ((level : Int) + (1 : Int)))) (φ3 := IsR (SA w S []) (V.d (y))) (φ4 := Is (.bool (nested))) ent137 (hlc rfl) (hlc rfl) ((hlc rfl).refd D_p sub_all) (hlc rfl) (fun g u1 u2 u3 u4 W hk hgk h1 h2 h3 h4 => by have h2 : u2 = _ := h2; subst u2; have h4 : u4 = _ := h4; subst u4; exact ih ((xs[k]'hlt).xs) (by omega) ((level : Int) + (1 : Int)) (by omega) (by omega) (nested) _ W _ _ (fun b o h => sa_cln hS b o h.1) h1 (Or.inr ⟨_, h3, by omega⟩))) ?_
     refine .dn fun a32 g W32 y32 zz32 hk hg hV hR hP => ?_
     obtain ⟨e53, -, -, -, -, -, -, -, -, -⟩ := hV
     replace e0 := ft hR e0
     replace e1 := ft hR e1
     replace e2 := ft hR e2
     replace e3 := ft hR e3
     replace e13 := ft hR e13
     replace e14 := ft hR e14
     replace D_v := D_v.ext hk
     replace D_p := D_p.ext hk
     replace D_v10_14 := D_v10_14.ext hk
     replace e53 := e53.q
     replace kw := kw.x hk
     clear hR hk hg hP
     refine zn (hK31 _ _ ?_)
     refine wp_cond_false e53 ?_
     refine wp_skip (hK10 _ _ ?_)
     refine rg mixed y32 zz32 ?_
     refine .i (sp_add (hbs rfl e14) Has.cst (i64_in (by omega))) ?_
     refine .i (sp_move (hlc rfl)) ?_
     refine .dn fun a33 g W33 y33 zz33 hk hg hV hR hP => ?_
     obtain ⟨e14, -, -⟩ := hV
     replace e0 := ft hR e0
     replace e1 := ft hR e1
     replace e2 := ft hR e2
     replace e3 := ft hR e3
     replace e13 := ft hR e13
     replace D_v := D_v.ext hk
     replace D_p := D_p.ext hk
     replace e14 := e14.q
     replace kw := kw.x hk
     clear hR hk hg hP
     exact tail_nil ⟨hlt, y33, zz33, kw, e0, e1, e2, e3, e13, (e14.trans (congrArg (Value.int .i64) (by simp))), D_v, D_p⟩
    have hge0 : ¬ k < xs.length := by simpa using hc
    have hge : k = xs.length := by omega
    refine wp_exit (hK3 _ _ ?_)
    refine zq fun K34 hK34 => ?_
    refine rg mixed y8 zz8 ?_
    refine .ac ?_
    refine .dn fun a35 g W35 y35 zz35 hk hg hV hR hP => ?_
    obtain ⟨e8, -⟩ := hV
    replace D_v := D_v.ext hk
    replace D_p := D_p.ext hk
    replace e8 := e8.q
    replace kw := kw.x hk
    clear hR hk hg hP
    refine zn (hK34 _ _ ?_)
    refine wp_ret ?_
    refine ret1 rfl zz35 e8 ⟨_, rfl, kw, ?_⟩
    exact rfl
end Go.Proofs.Ytnobijngkpflcaa
namespace Go.Proofs.Ytnobijngkpflcaa
open Go.Eng
set_option maxRecDepth 100000 in
theorem refSame_all : ∀ (n : Nat) (x y : V), x.cnt ≤ n → n ≤ 1073741824 → ∀ (w : World) (S : BSet) (v u : Value), Rd w S x.d v → Rd w S y.d u → Calls Try.prog 34 #[v, u] w (Ret w fun u _ => u = .bool (V.beq x y)) := by
 intro n
 induction n with
 | zero => intro x y hx; cases x; simp [V.cnt] at hx
 | succ n ih =>
 intro x y hx hn w S v u hv hu
 have hlx := len_cnts x.xs
 have hcx := cnt_eq x
 have hmn : x.ns.length ≤ maxLen := by obtain ⟨_, _, _, _, _, _, h, _⟩ := rdV_out hv; exact rd_lenS h
 simp only [maxLen] at hmn
 obtain ⟨cn0a, cn0c, ci0a, ci0c, ev, ht0, D_cn0, D_ci0⟩ := rdV_out (rd_arg hv)
 subst ev
 obtain ⟨cn1a, cn1c, ci1a, ci1c, ev, ht1, D_cn1, D_ci1⟩ := rdV_out (rd_arg hu)
 subst ev
 refine enter Try.func34 rfl Try.ntmps34 (lbr rfl) fun a0 y0 zz0 harg => ?_
 have e0 : sl a0 0 = (.agg #[(.int .u8 (x.k)), (.int .i64 (x.n)), (.string (x.t)), (.slice cn0a (x.ns.length) cn0c), (.slice ci0a (x.xs.length) ci0c)]) := harg 0 (lbr rfl)
 have e1 : sl a0 1 = (.agg #[(.int .u8 (y.k)), (.int .i64 (y.n)), (.string (y.t)), (.slice cn1a (y.ns.length) cn1c), (.slice ci1a (y.xs.length) ci1c)]) := harg 1 (lbr rfl)
 have kw := Keeps.refl All w
 clear harg
 refine zq fun K1 hK1 => ?_
 refine rg mixed y0 zz0 ?_
 refine .boxOp (v := (.agg #[(.int .u8 (x.k)), (.int .i64 (x.n)), (.string (x.t)), (.slice cn0a (x.ns.length) cn0c), (.slice ci0a (x.xs.length) ci0c)])) (hbs rfl e0) ?_
 refine .boxOp (v := (.agg #[(.int .u8 (y.k)), (.int .i64 (y.n)), (.string (y.t)), (.slice cn1a (y.ns.length) cn1c), (.slice ci1a (y.xs.length) ci1c)])) (hbs rfl e1) ?_
 refine .ac ?_
 refine .dn fun a2 g W2 y2 zz2 hk hg hV hR hP => ?_
 obtain ⟨-, ⟨b3_2, e3, hb3, own_b3_2⟩, ⟨b2_2, e2, hb2, own_b2_2⟩, -⟩ := hV
 have lo_b3_2 : w.heap.size ≤ b3_2 := Nat.le_trans kw.size (hg.lo _ _ hb3)
 have own_b3_2 : Own W2 b3_2 [(.int .u8 (y.k)), (.int .i64 (y.n)), (.string (y.t)), (.slice cn1a (y.ns.length) cn1c), (.slice ci1a (y.xs.length) ci1c)] 33 := own_b3_2
 have lo_b2_2 : w.heap.size ≤ b2_2 := Nat.le_trans kw.size (hg.lo _ _ hb2)
 have own_b2_2 : Own W2 b2_2 [(.int .u8 (x.k)), (.int .i64 (x.n)), (.string (x.t)), (.slice cn0a (x.ns.length) cn0c), (.slice ci0a (x.xs.length) ci0c)] 33 := own_b2_2
 have ne_b3_2_b2_2 : b3_2 ≠ b2_2 := fun h => by have := hg.inj _ _ _ hb3 (h ▸ hb2); cases this
 replace D_cn0 := sa_more D_cn0 hk [b3_2, b2_2] (in_cons (hg.lo _ _ hb3) (in_cons (hg.lo _ _ hb2) in_nil))
 replace D_ci0 := sa_more D_ci0 hk [b3_2, b2_2] (in_cons (hg.lo _ _ hb3) (in_cons (hg.lo _ _ hb2) in_nil))
 replace D_cn1 := sa_more D_cn1 hk [b3_2, b2_2] (in_cons (hg.lo _ _ hb3) (in_cons (hg.lo _ _ hb2) in_nil))
 replace D_ci1 := sa_more D_ci1 hk [b3_2, b2_2] (in_cons (hg.lo _ _ hb3) (in_cons (hg.lo _ _ hb2) in_nil))
 replace kw := kw.x hk
 clear hR hk hg hP hb3 hb2
 refine zn (hK1 _ _ ?_)
 refine zq fun K3 hK3 => ?_
 refine zq fun K4 hK4 => ?_
 refine rg mixed y2 zz2 ?_
 refine .i (fo 0 (hbs rfl e2) Try.underlying33 rfl sz5 rfl) ?_
 refine .i (lo1 (hlc rfl) own_b2_2 trivial agg5 sz5 rfl) ?_
 refine .i (fo 0 (hbs rfl e3) Try.underlying33 rfl sz5 rfl) ?_
 refine .i (lo1 (hlc rfl) own_b3_2 trivial agg5 sz5 rfl) ?_
 refine .i (sp_neq (hlc rfl) (hlc rfl)) ?_
 refine .i (sp_move (hlc rfl)) ?_
 refine .e rfl (hlc rfl) (fun hg => fo 1 (hbs rfl e2) Try.underlying33 rfl sz2 rfl) ?_
 refine .e rfl (hlc rfl) (fun hg => lo1 ((hlc rfl).undE hg) own_b2_2 trivial agg2 sz2 rfl) ?_
 refine .e rfl (hlc rfl) (fun hg => fo 1 (hbs rfl e3) Try.underlying33 rfl sz2 rfl) ?_
 refine .e rfl (hlc rfl) (fun hg => lo1 ((hlc rfl).undE hg) own_b3_2 trivial agg2 sz2 rfl) ?_
 refine .e rfl (hlc rfl) (fun hg => sp_neq ((hlc rfl).undE hg) ((hlc rfl).undE hg)) ?_
 refine .i (sp_or (hlc rfl) ((hlc rfl).weak fun hq => hq)) ?_
 refine .i (sp_move (hlc rfl)) ?_
 refine .e rfl (hlc rfl) (fun hg => fo 2 (hbs rfl e2) Try.underlying33 rfl sz9 rfl) ?_
 refine .e rfl (hlc rfl) (fun hg => lo1 ((hlc rfl).undE hg) own_b2_2 trivial agg9 sz9 rfl) ?_
 refine .e rfl (hlc rfl) (fun hg => fo 2 (hbs rfl e3) Try.underlying33 rfl sz9 rfl) ?_
 refine .e rfl (hlc rfl) (fun hg => lo1 ((hlc rfl).undE hg) own_b3_2 trivial agg9 sz9 rfl) ?_
 refine .e rfl (hlc rfl) (fun hg => sp_sNeq ((hlc rfl).undE hg) ((hlc rfl).undE hg)) ?_
 refine .i (sp_or (hlc rfl) ((hlc rfl).weak fun hq => hq)) ?_
 refine .i (sp_move (hlc rfl)) ?_
 refine .e rfl (hlc rfl) (fun hg => fo 3 (hbs rfl e2) Try.underlying33 rfl sz23 rfl) ?_
 refine .e rfl (hlc rfl) (fun hg => lo1 ((hlc rfl).undE hg) own_b2_2 trivial agg23 sz23 rfl) ?_
 refine .e rfl (hlc rfl) (fun hg => sp_lenSs Try.underlying23 (((hlc rfl).undE hg).dat D_cn0 sub_all)) ?_
 refine .e rfl (hlc rfl) (fun hg => fo 3 (hbs rfl e3) Try.underlying33 rfl sz23 rfl) ?_
 refine .e rfl (hlc rfl) (fun hg => lo1 ((hlc rfl).undE hg) own_b3_2 trivial agg23 sz23 rfl) ?_
 refine .e rfl (hlc rfl) (fun hg => sp_lenSs Try.underlying23 (((hlc rfl).undE hg).dat D_cn1 sub_all)) ?_
 refine .e rfl (hlc rfl) (fun hg => sp_neq ((hlc rfl).undE hg) ((hlc rfl).undE hg)) ?_
 refine .i (sp_or (hlc rfl) ((hlc rfl).weak fun hq => hq)) ?_
 refine .i (sp_move (hlc rfl)) ?_
 refine .e rfl (hlc rfl) (fun hg => fo 4 (hbs rfl e2) Try.underlying33 rfl sz31 rfl) ?_
 refine .e rfl (hlc rfl) (fun hg => lo1 ((hlc rfl).undE hg) own_b2_2 trivial agg31 sz31 rfl) ?_
 refine .e rfl (hlc rfl) (fun hg => sp_lenVs Try.underlying31 (((hlc rfl).undE hg).dat D_ci0 sub_all)) ?_
 refine .e rfl (hlc rfl) (fun hg => fo 4 (hbs rfl e3) Try.underlying33 rfl sz31 rfl) ?_
 refine .e rfl (hlc rfl) (fun hg => lo1 ((hlc rfl).undE hg) own_b3_2 trivial agg31 sz31 rfl) ?_
 refine .e rfl (hlc rfl) (fun hg => sp_lenVs Try.underlying31 (((hlc rfl).undE hg).dat D_ci1 sub_all)) ?_
 refine .e rfl (hlc rfl) (fun hg => sp_neq ((hlc rfl).undE hg) ((hlc rfl).undE hg)) ?_
 refine .i (sp_or (hlc rfl) ((hlc rfl).weak fun hq => hq)) ?_
 refine .dn fun a5 g W5 y5 zz5 hk hg hV hR hP => ?_
 obtain ⟨e43, -, -, -, -, -, -, -, -, -, -, -, -, -, -, -, -, -, -, -, -, -, -, -, -, -, -, -, -, -, -, -, -, -, -, -, -, -⟩ := hV
 replace e3 := ft hR e3
 replace e2 := ft hR e2
 replace D_cn0 := D_cn0.ext hk
 replace D_ci0 := D_ci0.ext hk
 replace D_cn1 := D_cn1.ext hk
 replace D_ci1 := D_ci1.ext hk
 replace e43 := e43.q
 replace own_b3_2 := own_b3_2.ext hk
 replace own_b2_2 := own_b2_2.ext hk
 replace kw := kw.x hk
 clear hR hk hg hP
 refine zn (hK4 _ _ ?_)
 refine zc e43 (fun hc => ?_) (fun hc => ?_)
 ·
  have hfin : V.beq x y = false := beq_false fun h => by subst h; simp at hc
  refine zq fun K6 hK6 => ?_
  refine rg mixed y5 zz5 ?_
  refine .ac ?_
  refine .dn fun a7 g W7 y7 zz7 hk hg hV hR hP => ?_
  obtain ⟨e4, -⟩ := hV
  replace D_cn0 := D_cn0.ext hk
  replace D_ci0 := D_ci0.ext hk
  replace D_cn1 := D_cn1.ext hk
  replace D_ci1 := D_ci1.ext hk
  replace e4 := e4.q
  replace own_b3_2 := own_b3_2.ext hk
  replace own_b2_2 := own_b2_2.ext hk
  replace kw := kw.x hk
  clear hR hk hg hP
  refine zn (hK6 _ _ ?_)
  refine wp_ret ?_
  refine ret1 rfl zz7 e4 ⟨_, rfl, kw, ?_⟩
  rw [hfin]
 simp at hc
 obtain ⟨⟨⟨⟨q1, q2⟩, q3⟩, q4⟩, q5⟩ := hc
 refine wp_skip (hK3 _ _ ?_)
 refine zq fun K8 hK8 => ?_
 refine zq fun K9 hK9 => ?_
 refine rg mixed y5 zz5 ?_
 refine .ac ?_
 refine .dn fun a10 g W10 y10 zz10 hk hg hV hR hP => ?_
 obtain ⟨e5, -⟩ := hV
 replace e3 := ft hR e3
 replace e2 := ft hR e2
 replace D_cn0 := D_cn0.ext hk
 replace D_ci0 := D_ci0.ext hk
 replace D_cn1 := D_cn1.ext hk
 replace D_ci1 := D_ci1.ext hk
 replace e5 := e5.q
 replace own_b3_2 := own_b3_2.ext hk
 replace own_b2_2 := own_b2_2.ext hk
 replace kw := kw.x hk
 clear hR hk hg hP
 refine zn (hK9 _ _ ?_)
 refine wp_block ?_
 refine wp_for (x.ns.length) (fun k a W => a.tmps.size = 81 ∧ a.defers = [] ∧ Keeps All w W ∧ sl a 2 = (.pointer (some ⟨b2_2, 0, none⟩)) ∧ sl a 3 = (.pointer (some ⟨b3_2, 0, none⟩)) ∧ sl a 5 = (.int .i64 ((k : Nat))) ∧ Own W b3_2 [(.int .u8 (y.k)), (.int .i64 (y.n)), (.string (y.t)), (.slice cn1a (y.ns.length) cn1c), (.slice ci1a (y.xs.length) ci1c)] 33 ∧ Own W b2_2 [(.int .u8 (x.k)), (.int .i64 (x.n)), (.string (x.t)), (.slice cn0a (x.ns.length) cn0c), (.slice ci0a (x.xs.length) ci0c)] 33 ∧ Rd W (SA w S [b3_2, b2_2]) (strsD (x.ns)) (.slice cn0a (x.ns.length) cn0c) ∧ Rd W (SA w S [b3_2, b2_2]) (valsD (x.xs)) (.slice ci0a (x.xs.length) ci0c) ∧ Rd W (SA w S [b3_2, b2_2]) (strsD (y.ns)) (.slice cn1a (y.ns.length) cn1c) ∧ Rd W (SA w S [b3_2, b2_2]) (valsD (y.xs)) (.slice ci1a (y.xs.length) ci1c) ∧ (∀ i (h1 : i < x.ns.length) (h2 : i < y.ns.length), i < k → x.ns[i] = y.ns[i])) ⟨y10, zz10, kw, e2, e3, (e5.trans (congrArg (Value.int .i64) (rfl))), own_b3_2, own_b2_2, D_cn0, D_ci0, D_cn1, D_ci1, fun i h1 h2 hi => absurd hi (by omega)⟩ ?_
 clear kw e2 e3 e5 own_b3_2 own_b2_2 D_cn0 D_ci0 D_cn1 D_ci1
 rintro k a11 W11 hkk ⟨y11, zz11, kw, e2, e3, e5, own_b3_2, own_b2_2, D_cn0, D_ci0, D_cn1, D_ci1, hinv⟩
 refine zq fun K12 hK12 => ?_
 refine zq fun K13 hK13 => ?_
 refine rg mixed y11 zz11 ?_
 refine .mb rfl e5 ?_
 refine .i (fo 3 (hbs rfl e2) Try.underlying33 rfl sz23 rfl) ?_
 refine .i (lo1 (hlc rfl) own_b2_2 trivial agg23 sz23 rfl) ?_
 refine .i (sp_lenSs Try.underlying23 ((hlc rfl).dat D_cn0 sub_all)) ?_
 refine .i (sp_lss (hlc rfl) (hlc rfl)) ?_
 refine .dn fun a14 g W14 y14 zz14 hk hg hV hR hP => ?_
 obtain ⟨e48, -, -, -, -, -⟩ := hV
 replace e3 := ft hR e3
 replace e2 := ft hR e2
 replace e5 := ft hR e5
 replace D_cn0 := D_cn0.ext hk
 replace D_ci0 := D_ci0.ext hk
 replace D_cn1 := D_cn1.ext hk
 replace D_ci1 := D_ci1.ext hk
 replace e48 := e48.q
 replace own_b3_2 := own_b3_2.ext hk
 replace own_b2_2 := own_b2_2.ext hk
 replace kw := kw.x hk
 clear hR hk hg hP
 refine zn (hK13 _ _ ?_)
 refine zc e48 (fun hc => ?_) (fun hc => ?_)
 ·
  have hlt : k < x.ns.length := by simpa using hc
  refine wp_skip (hK12 _ _ ?_)
  refine zq fun K15 hK15 => ?_
  refine wp_block ?_
  refine zq fun K16 hK16 => ?_
  refine rg mixed y14 zz14 ?_
  refine .i (fo 3 (hbs rfl e2) Try.underlying33 rfl sz23 rfl) ?_
  refine .i (lo1 (hlc rfl) own_b2_2 trivial agg23 sz23 rfl) ?_
  refine .mb rfl e5 ?_
  refine .rf (sp_indexS (i := k) ((hlc rfl).dat D_cn0 sub_all) (hlc rfl) Try.underlying23 sz9 rfl hlt) ?_
  refine .i (sp_loadStr (hlc rfl) agg9 sz9) ?_
  refine .i (fo 3 (hbs rfl e3) Try.underlying33 rfl sz23 rfl) ?_
  refine .i (lo1 (hlc rfl) own_b3_2 trivial agg23 sz23 rfl) ?_
  refine .mb rfl e5 ?_
  refine .rf (sp_indexS (i := k) ((hlc rfl).dat D_cn1 sub_all) (hlc rfl) Try.underlying23 sz9 rfl (by omega)) ?_
  refine .i (sp_loadStr (hlc rfl) agg9 sz9) ?_
  refine .i (sp_sNeq (hlc rfl) (hlc rfl)) ?_
  refine .dn fun a17 g W17 y17 zz17 hk hg hV hR hP => ?_
  obtain ⟨e61, -, -, -, -, -, -, -, -, -, -, -⟩ := hV
  replace e3 := ft hR e3
  replace e2 := ft hR e2
  replace e5 := ft hR e5
  replace D_cn0 := D_cn0.ext hk
  replace D_ci0 := D_ci0.ext hk
  replace D_cn1 := D_cn1.ext hk
  replace D_ci1 := D_ci1.ext hk
  replace e61 := e61.q
  replace own_b3_2 := own_b3_2.ext hk
  replace own_b2_2 := own_b2_2.ext hk
  replace kw := kw.x hk
  clear hR hk hg hP
  refine zn (hK16 _ _ ?_)
  refine zc e61 (fun hc => ?_) (fun hc => ?_)
  ·
   have hfin : V.beq x y = false := beq_false fun h => by subst h; simp at hc
   refine zq fun K18 hK18 => ?_
   refine rg mixed y17 zz17 ?_
   refine .ac ?_
   refine .dn fun a19 g W19 y19 zz19 hk hg hV hR hP => ?_
   obtain ⟨e4, -⟩ := hV
   replace D_cn0 := D_cn0.ext hk
   replace D_ci0 := D_ci0.ext hk
   replace D_cn1 := D_cn1.ext hk
   replace D_ci1 := D_ci1.ext hk
   replace e4 := e4.q
   replace own_b3_2 := own_b3_2.ext hk
   replace own_b2_2 := own_b2_2.ext hk
   replace kw := kw.x hk
   clear hR hk hg hP
   refine zn (hK18 _ _ ?_)
   refine wp_ret ?_
   refine ret1 rfl zz19 e4 ⟨_, rfl, kw, ?_⟩
   rw [hfin]
  have hk1 : x.ns[k] = y.ns[k] := by simpa using hc
  refine wp_skip (hK15 _ _ ?_)
  refine rg mixed y17 zz17 ?_
  refine .mb rfl e5 ?_
  refine .i (sp_add (hlc rfl) Has.cst (i64_in (by omega))) ?_
  refine .al rfl ?_
  refine .dn fun a20 g W20 y20 zz20 hk hg hV hR hP => ?_
  obtain ⟨e5, -, -, -⟩ := hV
  replace e3 := ft hR e3
  replace e2 := ft hR e2
  replace D_cn0 := D_cn0.ext hk
  replace D_ci0 := D_ci0.ext hk
  replace D_cn1 := D_cn1.ext hk
  replace D_ci1 := D_ci1.ext hk
  replace e5 := e5.q
  replace own_b3_2 := own_b3_2.ext hk
  replace own_b2_2 := own_b2_2.ext hk
  replace kw := kw.x hk
  clear hR hk hg hP
  exact tail_nil ⟨hlt, y20, zz20, kw, e2, e3, (e5.trans (congrArg (Value.int .i64) (by simp))), own_b3_2, own_b2_2, D_cn0, D_ci0, D_cn1, D_ci1, fun i h1 h2 hi => by rcases Nat.lt_succ_iff_lt_or_eq.1 hi with h | h; exact hinv i h1 h2 h; subst h; exact hk1⟩
 have hge0 : ¬ k < x.ns.length := by simpa using hc
 have hge : k = x.ns.length := by omega
 have hns : x.ns = y.ns := List.ext_getElem (by omega) fun i h1 h2 => hinv i h1 h2 (by omega)
 refine wp_exit (hK8 _ _ ?_)
 refine zq fun K21 hK21 => ?_
 refine zq fun K22 hK22 => ?_
 refine rg mixed y14 zz14 ?_
 refine .ac ?_
 refine .dn fun a23 g W23 y23 zz23 hk hg hV hR hP => ?_
 obtain ⟨e6, -⟩ := hV
 replace e3 := ft hR e3
 replace e2 := ft hR e2
 replace D_cn0 := D_cn0.ext hk
 replace D_ci0 := D_ci0.ext hk
 replace D_cn1 := D_cn1.ext hk
 replace D_ci1 := D_ci1.ext hk
 replace e6 := e6.q
 replace own_b3_2 := own_b3_2.ext hk
 replace own_b2_2 := own_b2_2.ext hk
 replace kw := kw.x hk
 clear hR hk hg hP
 refine zn (hK22 _ _ ?_)
 refine wp_block ?_
 refine wp_for (x.xs.length) (fun j a W => a.tmps.size = 81 ∧ a.defers = [] ∧ Keeps All w W ∧ sl a 2 = (.pointer (some ⟨b2_2, 0, none⟩)) ∧ sl a 3 = (.pointer (some ⟨b3_2, 0, none⟩)) ∧ sl a 6 = (.int .i64 ((j : Nat))) ∧ Own W b3_2 [(.int .u8 (y.k)), (.int .i64 (y.n)), (.string (y.t)), (.slice cn1a (y.ns.length) cn1c), (.slice ci1a (y.xs.length) ci1c)] 33 ∧ Own W b2_2 [(.int .u8 (x.k)), (.int .i64 (x.n)), (.string (x.t)), (.slice cn0a (x.ns.length) cn0c), (.slice ci0a (x.xs.length) ci0c)] 33 ∧ Rd W (SA w S [b3_2, b2_2]) (strsD (x.ns)) (.slice cn0a (x.ns.length) cn0c) ∧ Rd W (SA w S [b3_2, b2_2]) (valsD (x.xs)) (.slice ci0a (x.xs.length) ci0c) ∧ Rd W (SA w S [b3_2, b2_2]) (strsD (y.ns)) (.slice cn1a (y.ns.length) cn1c) ∧ Rd W (SA w S [b3_2, b2_2]) (valsD (y.xs)) (.slice ci1a (y.xs.length) ci1c) ∧ (∀ i (h1 : i < x.xs.length) (h2 : i < y.xs.length), i < j → x.xs[i] = y.xs[i])) ⟨y23, zz23, kw, e2, e3, (e6.trans (congrArg (Value.int .i64) (rfl))), own_b3_2, own_b2_2, D_cn0, D_ci0, D_cn1, D_ci1, fun i h1 h2 hi => absurd hi (by omega)⟩ ?_
 clear kw e2 e3 e6 own_b3_2 own_b2_2 D_cn0 D_ci0 D_cn1 D_ci1
 rintro j a24 W24 hkj ⟨y24, zz24, kw, e2, e3, e6, own_b3_2, own_b2_2, D_cn0, D_ci0, D_cn1, D_ci1, hinv2⟩
 refine zq fun K25 hK25 => ?_
 refine zq fun K26 hK26 => ?_
 refine rg mixed y24 zz24 ?_
 refine .mb rfl e6 ?_
 refine .i (fo 4 (hbs rfl e2) Try.underlying33 rfl sz31 rfl) ?_
 refine .i (lo1 (hlc rfl) own_b2_2 trivial agg31 sz31 rfl) ?_
 refine .i (sp_lenVs Try.underlying31 ((hlc rfl).dat D_ci0 sub_all)) ?_
 refine .i (sp_lss (hlc rfl) (hlc rfl)) ?_
 refine .dn fun a27 g W27 y27 zz27 hk hg hV hR hP => ?_
 obtain ⟨e66, -, -, -, -, -⟩ := hV
 replace e3 := ft hR e3
 replace e2 := ft hR e2
 replace e6 := ft hR e6
 replace D_cn0 := D_cn0.ext hk
 replace D_ci0 := D_ci0.ext hk
 replace D_cn1 := D_cn1.ext hk
 replace D_ci1 := D_ci1.ext hk
 replace e66 := e66.q
 replace own_b3_2 := own_b3_2.ext hk
 replace own_b2_2 := own_b2_2.ext hk
 replace kw := kw.x hk
 clear hR hk hg hP
 refine zn (hK26 _ _ ?_)
 refine zc e66 (fun hc => ?_) (fun hc => ?_)
 ·
  have hlt : j < x.xs.length := by simpa using hc
  have hltj := hlt
  have hce := cnt_elem hlt
  have hcq := cnt_eq x
  refine wp_skip (hK25 _ _ ?_)
  refine zq fun K28 hK28 => ?_
  refine wp_block ?_
  refine zq fun K29 hK29 => ?_
  refine rg mixed y27 zz27 ?_
  refine .i (fo 4 (hbs rfl e2) Try.underlying33 rfl sz31 rfl) ?_
  refine .i (lo1 (hlc rfl) own_b2_2 trivial agg31 sz31 rfl) ?_
  refine .mb rfl e6 ?_
  refine .rf (sp_indexV (i := j) ((hlc rfl).dat D_ci0 sub_all) (hlc rfl) Try.underlying31 sz33 rfl hltj) ?_
  refine .da (sp_loadV (hlc rfl) agg33 sz33) ?_
  refine .i (fo 4 (hbs rfl e3) Try.underlying33 rfl sz31 rfl) ?_
  refine .i (lo1 (hlc rfl) own_b3_2 trivial agg31 sz31 rfl) ?_
  refine .mb rfl e6 ?_
  refine .rf (sp_indexV (i := j) ((hlc rfl).dat D_ci1 sub_all) (hlc rfl) Try.underlying31 sz33 rfl (by omega)) ?_
  refine .da (sp_loadV (hlc rfl) agg33 sz33) ?_
  refine .i (v := (.bool (V.beq (x.xs[j]'hltj) (y.xs[j]'(by omega))))) (sp_call2 (φ1 := IsD (SA w S [b3_2, b2_2]) (V.d (x.xs[j]'hltj))) (φ2 := IsD (SA w S [b3_2, b2_2]) (V.d (y.xs[j]'(by omega)))) ent34 (hlc rfl) (hlc rfl) (fun g u1 u2 W hk hgk h1 h2 => ih (x.xs[j]'hltj) (y.xs[j]'(by omega)) (by omega) (by first | omega | exact Nat.le_of_ble_eq_true (by kernel_rfl)) W _ _ _ h1 h2)) ?_
  refine .i (sp_not (hlc rfl)) ?_
  refine .dn fun a30 g W30 y30 zz30 hk hg hV hR hP => ?_
  obtain ⟨e80, -, -, -, -, -, -, -, -, -, -, -, -⟩ := hV
  replace e3 := ft hR e3
  replace e2 := ft hR e2
  replace e6 := ft hR e6
  replace D_cn0 := D_cn0.ext hk
  replace D_ci0 := D_ci0.ext hk
  replace D_cn1 := D_cn1.ext hk
  replace D_ci1 := D_ci1.ext hk
  replace e80 := e80.q
  replace own_b3_2 := own_b3_2.ext hk
  replace own_b2_2 := own_b2_2.ext hk
  replace kw := kw.x hk
  clear hR hk hg hP
  refine zn (hK29 _ _ ?_)
  refine zc e80 (fun hc => ?_) (fun hc => ?_)
  ·
   have hfin : V.beq x y = false := beq_false fun h => by subst h; simp [beq_refl] at hc
   refine zq fun K31 hK31 => ?_
   refine rg mixed y30 zz30 ?_
   refine .ac ?_
   refine .dn fun a32 g W32 y32 zz32 hk hg hV hR hP => ?_
   obtain ⟨e4, -⟩ := hV
   replace D_cn0 := D_cn0.ext hk
   replace D_ci0 := D_ci0.ext hk
   replace D_cn1 := D_cn1.ext hk
   replace D_ci1 := D_ci1.ext hk
   replace e4 := e4.q
   replace own_b3_2 := own_b3_2.ext hk
   replace own_b2_2 := own_b2_2.ext hk
   replace kw := kw.x hk
   clear hR hk hg hP
   refine zn (hK31 _ _ ?_)
   refine wp_ret ?_
   refine ret1 rfl zz32 e4 ⟨_, rfl, kw, ?_⟩
   rw [hfin]
  have hk1 : x.xs[j] = y.xs[j] := (beq_iff _ _).1 (by simpa using hc)
  refine wp_skip (hK28 _ _ ?_)
  refine rg mixed y30 zz30 ?_
  refine .mb rfl e6 ?_
  refine .i (sp_add (hlc rfl) Has.cst (i64_in (by omega))) ?_
  refine .al rfl ?_
  refine .dn fun a33 g W33 y33 zz33 hk hg hV hR hP => ?_
  obtain ⟨e6, -, -, -⟩ := hV
  replace e3 := ft hR e3
  replace e2 := ft hR e2
  replace D_cn0 := D_cn0.ext hk
  replace D_ci0 := D_ci0.ext hk
  replace D_cn1 := D_cn1.ext hk
  replace D_ci1 := D_ci1.ext hk
  replace e6 := e6.q
  replace own_b3_2 := own_b3_2.ext hk
  replace own_b2_2 := own_b2_2.ext hk
  replace kw := kw.x hk
  clear hR hk hg hP
  exact tail_nil ⟨hlt, y33, zz33, kw, e2, e3, (e6.trans (congrArg (Value.int .i64) (by simp))), own_b3_2, own_b2_2, D_cn0, D_ci0, D_cn1, D_ci1, fun i h1 h2 hi => by rcases Nat.lt_succ_iff_lt_or_eq.1 hi with h | h; exact hinv2 i h1 h2 h; subst h; exact hk1⟩
 have hge0 : ¬ j < x.xs.length := by simpa using hc
 have hge : j = x.xs.length := by omega
 have hfin : V.beq x y = true := (beq_iff x y).2 (V.ext (by omega) q2 q3 hns (List.ext_getElem (by omega) fun i h1 h2 => hinv2 i h1 h2 (by omega)))
 refine wp_exit (hK21 _ _ ?_)
 refine zq fun K34 hK34 => ?_
 refine rg mixed y27 zz27 ?_
 refine .ac ?_
 refine .dn fun a35 g W35 y35 zz35 hk hg hV hR hP => ?_
 obtain ⟨e4, -⟩ := hV
 replace D_cn0 := D_cn0.ext hk
 replace D_ci0 := D_ci0.ext hk
 replace D_cn1 := D_cn1.ext hk
 replace D_ci1 := D_ci1.ext hk
 replace e4 := e4.q
 replace own_b3_2 := own_b3_2.ext hk
 replace own_b2_2 := own_b2_2.ext hk
 replace kw := kw.x hk
 clear hR hk hg hP
 refine zn (hK34 _ _ ?_)
 refine wp_ret ?_
 refine ret1 rfl zz35 e4 ⟨_, rfl, kw, ?_⟩
 rw [hfin]
end Go.Proofs.Ytnobijngkpflcaa
namespace Go.Proofs.Ytnobijngkpflcaa
open Go.Eng
set_option maxRecDepth 100000 in
theorem clone_ok (ns : List ByteArray) (hn : ns.length ≤ 1073741824) (w : World) (S : BSet) (v : Value) (hv : Rd w S (strsD ns) v) : Calls Try.prog 136 #[v] w (Ret w fun u W => Rd W (Fr w) (strsD ns) u) := by
 obtain ⟨va, vc, ev, D_v⟩ := rdS_out (rd_arg hv)
 subst ev
 refine enter Try.func136 rfl Try.ntmps136 (lbr rfl) fun a0 y0 zz0 harg => ?_
 have e0 : sl a0 0 = (.slice va (ns.length) vc) := harg 0 (lbr rfl)
 have kw := Keeps.refl All w
 clear harg
 refine zq fun K1 hK1 => ?_
 refine rg mixed y0 zz0 ?_
 refine .ac ?_
 refine .dn fun a2 g W2 y2 zz2 hk hg hV hR hP => ?_
 obtain ⟨-, -⟩ := hV
 replace e0 := ft hR e0
 replace D_v := D_v.ext hk
 replace kw := kw.x hk
 clear hR hk hg hP
 refine zn (hK1 _ _ ?_)
 refine zq fun K3 hK3 => ?_
 refine zq fun K4 hK4 => ?_
 refine rg mixed y2 zz2 ?_
 refine .mb rfl e0 ?_
 refine .i (v := (.bool (va.isNone))) (sp_slNil Try.underlying23 (hlc rfl) Has.cst) ?_
 refine .dn fun a5 g W5 y5 zz5 hk hg hV hR hP => ?_
 obtain ⟨e4, -, -⟩ := hV
 replace e0 := ft hR e0
 replace D_v := D_v.ext hk
 replace e4 := e4.q
 replace kw := kw.x hk
 clear hR hk hg hP
 refine zn (hK4 _ _ ?_)
 refine zc e4 (fun hc => ?_) (fun hc => ?_)
 ·
  have hns : ns = [] := by simpa using rd_none (ds := ns.map D.str) D_v hc
  subst hns
  refine zq fun K6 hK6 => ?_
  refine rg mixed y5 zz5 ?_
  refine .ac ?_
  refine .dn fun a7 g W7 y7 zz7 hk hg hV hR hP => ?_
  obtain ⟨e2, -⟩ := hV
  replace D_v := D_v.ext hk
  replace e2 := e2.q
  replace kw := kw.x hk
  clear hR hk hg hP
  refine zn (hK6 _ _ ?_)
  refine wp_ret ?_
  refine ret1 rfl zz7 e2 ⟨_, rfl, kw, ?_⟩
  exact rd_nil _
 refine wp_skip (hK3 _ _ ?_)
 refine zq fun K8 hK8 => ?_
 refine rg mixed y5 zz5 ?_
 refine .op (φ := IsE 9) st_e (sp_bslE Try.underlying23 sz9) ?_
 refine .mb rfl e0 ?_
 refine .da (X := SF w []) (e := strsD (ns)) (sp_appS Try.underlying23 inf9 (hlc rfl) ((hlc rfl).dat D_v sub_all) (by omega) (by omega) (fr_sf kw in_nil)) ?_
 refine .da (X := SF w []) (e := strsD (ns)) (sp_assign (hlc rfl)) ?_
 refine .dn fun a9 g W9 y9 zz9 hk hg hV hR hP => ?_
 obtain ⟨e2, -, -, -, -⟩ := hV
 replace D_v := D_v.ext hk
 obtain ⟨v2_9, ev⟩ : ∃ v, sl a9 2 = v := ⟨_, rfl⟩
 rw [ev] at e2
 have D_v2_9 : Rd W9 (SF w []) (strsD (ns)) v2_9 := sf_end e2 hk [] in_nil
 replace e2 := ev; clear ev
 obtain ⟨v2_9a, v2_9c, ev, D2⟩ := rdS_out D_v2_9
 subst ev; replace D_v2_9 := D2; clear D2
 replace kw := kw.x hk
 clear hR hk hg hP
 refine zn (hK8 _ _ ?_)
 refine wp_ret ?_
 refine ret1 rfl zz9 e2 ⟨_, rfl, kw, ?_⟩
 exact sf_fr D_v2_9
set_option maxRecDepth 100000 in
theorem duplicate_all : ∀ (n : Nat) (x : V), x.wt ≤ n → n ≤ 1073741824 → ∀ (w : World) (S : BSet) (v : Value), Rd w S x.d v → Calls Try.prog 138 #[v] w (Ret w fun u W => Rd W (Fr w) x.d u) := by
 intro n
 induction n with
 | zero => intro x hx; have := wt_pos x; omega
 | succ n ih =>
 intro x hx hn w S v hv
 have hwx := wt_eq x
 have hwl := wts_len x.xs
 have hwn := wtN_len x.ns
 obtain ⟨cn0a, cn0c, ci0a, ci0c, ev, ht0, D_cn0, D_ci0⟩ := rdV_out (rd_arg hv)
 subst ev
 refine enter Try.func138 rfl Try.ntmps138 (lbr rfl) fun a0 y0 zz0 harg => ?_
 have e0 : sl a0 0 = (.agg #[(.int .u8 (x.k)), (.int .i64 (x.n)), (.string (x.t)), (.slice cn0a (x.ns.length) cn0c), (.slice ci0a (x.xs.length) ci0c)]) := harg 0 (lbr rfl)
 have kw := Keeps.refl All w
 clear harg
 refine zq fun K1 hK1 => ?_
 refine rg mixed y0 zz0 ?_
 refine .boxOp (v := (.agg #[(.int .u8 (x.k)), (.int .i64 (x.n)), (.string (x.t)), (.slice cn0a (x.ns.length) cn0c), (.slice ci0a (x.xs.length) ci0c)])) (hbs rfl e0) ?_
 refine .alloc z33 ?_
 refine .dn fun a2 g W2 y2 zz2 hk hg hV hR hP => ?_
 obtain ⟨⟨b2_2, e2, hb2, own_b2_2⟩, ⟨b1_2, e1, hb1, own_b1_2⟩, -⟩ := hV
 have lo_b2_2 : w.heap.size ≤ b2_2 := Nat.le_trans kw.size (hg.lo _ _ hb2)
 have own_b2_2 : Own W2 b2_2 z5C 33 := own_b2_2
 have lo_b1_2 : w.heap.size ≤ b1_2 := Nat.le_trans kw.size (hg.lo _ _ hb1)
 have own_b1_2 : Own W2 b1_2 [(.int .u8 (x.k)), (.int .i64 (x.n)), (.string (x.t)), (.slice cn0a (x.ns.length) cn0c), (.slice ci0a (x.xs.length) ci0c)] 33 := own_b1_2
 have ne_b2_2_b1_2 : b2_2 ≠ b1_2 := fun h => by have := hg.inj _ _ _ hb2 (h ▸ hb1); cases this
 replace D_cn0 := sa_more D_cn0 hk [b2_2, b1_2] (in_cons (hg.lo _ _ hb2) (in_cons (hg.lo _ _ hb1) in_nil))
 replace D_ci0 := sa_more D_ci0 hk [b2_2, b1_2] (in_cons (hg.lo _ _ hb2) (in_cons (hg.lo _ _ hb1) in_nil))
 replace kw := kw.x hk
 clear hR hk hg hP hb2 hb1
 refine zn (hK1 _ _ ?_)
 refine zq fun K3 hK3 => ?_
 refine rg mixed y2 zz2 ?_
 refine .i (fo 0 (hbs rfl e1) Try.underlying33 rfl sz5 rfl) ?_
 refine .i (lo1 (hlc rfl) own_b1_2 trivial agg5 sz5 rfl) ?_
 refine .i (fo 1 (hbs rfl e1) Try.underlying33 rfl sz2 rfl) ?_
 refine .i (lo1 (hlc rfl) own_b1_2 trivial agg2 sz2 rfl) ?_
 refine .i (fo 2 (hbs rfl e1) Try.underlying33 rfl sz9 rfl) ?_
 refine .i (lo1 (hlc rfl) own_b1_2 trivial agg9 sz9 rfl) ?_
 refine .i (fo 3 (hbs rfl e1) Try.underlying33 rfl sz23 rfl) ?_
 refine .i (lo1 (hlc rfl) own_b1_2 trivial agg23 sz23 rfl) ?_
 refine .da (X := Fr W2) (e := strsD (x.ns)) (sp_call1 (φ1 := IsD (SA w S [b2_2, b1_2]) (strsD (x.ns))) ent136 ((hlc rfl).dat D_cn0 sub_all) (fun g u1 W hk hgk h1 => (clone_ok (x.ns) (by omega) W _ _ h1).mono (ret_fr hk hgk))) ?_
 refine .op (φ := IsHole (fun v => .agg #[(.int .u8 (x.k)), (.int .i64 (x.n)), (.string (x.t)), v, (.slice none 0 0)]) (IsD (Fr W2) (strsD (x.ns)))) (st_hole (st_d sub_all)) (sp_build1 (vs := [(0, some (.int .u8 (x.k))), (1, some (.int .i64 (x.n))), (2, some (.string (x.t))), (3, none)]) (cells := fun v => #[(.int .u8 (x.k)), (.int .i64 (x.n)), (.string (x.t)), v, (.slice none 0 0)]) Try.underlying33 z33 (pl33 Try.underlying33) (hlc rfl) (fun _ => by simp [Op.operands]) sl_strs ⟨rfl, (hlc rfl), ⟨rfl, (hlc rfl), ⟨rfl, (hlc rfl), ⟨rfl, rfl, trivial⟩⟩⟩⟩ (fun _ _ _ => rfl)) ?_
 refine .alloc z33 ?_
 refine .dn fun a4 g W4 y4 zz4 hk hg hV hR hP => ?_
 obtain ⟨⟨b3_4, e3, hb3, own_b3_4⟩, e15, -, -, -, -, -, -, -, -, -, -⟩ := hV
 have lo_b3_4 : w.heap.size ≤ b3_4 := Nat.le_trans kw.size (hg.lo _ _ hb3)
 have ne_b2_2_b3_4 : b2_2 ≠ b3_4 := Nat.ne_of_lt (Nat.lt_of_lt_of_le own_b2_2.lt (hg.lo _ _ hb3))
 have ne_b1_2_b3_4 : b1_2 ≠ b3_4 := Nat.ne_of_lt (Nat.lt_of_lt_of_le own_b1_2.lt (hg.lo _ _ hb3))
 have own_b3_4 : Own W4 b3_4 z5C 33 := own_b3_4
 replace e2 := ft hR e2
 replace e1 := ft hR e1
 replace D_cn0 := sa_more D_cn0 hk [b3_4] (in_cons (hg.lo _ _ hb3) in_nil)
 replace D_ci0 := sa_more D_ci0 hk [b3_4] (in_cons (hg.lo _ _ hb3) in_nil)
 obtain ⟨v15_4a, v15_4n, v15_4c, ev, D_v15_4⟩ := e15
 replace D_v15_4 : Rd W4 (SF w [b3_4, b2_2, b1_2]) (strsD (x.ns)) _ := fr_end (M := [b2_2, b1_2]) D_v15_4 kw [b3_4] (in_cons ⟨_, hb3⟩ in_nil) (in_cons own_b2_2.lt (in_cons own_b1_2.lt in_nil))
 obtain ⟨xa, xc, ev2, D2⟩ := rdS_out D_v15_4
 injection ev2 with h1 h2 h3; subst h1 h2 h3; clear D2
 have e15 : sl a4 15 = (.agg #[(.int .u8 (x.k)), (.int .i64 (x.n)), (.string (x.t)), (.slice v15_4a (x.ns.length) v15_4c), (.slice none 0 0)]) := ev; clear ev
 replace own_b2_2 := own_b2_2.ext hk
 replace own_b1_2 := own_b1_2.ext hk
 replace kw := kw.x hk
 clear hR hk hg hP hb3
 refine tail_store e3 e15 sz33 rfl own_b3_4 (lbr rfl) (all_cons rfl (all_cons rfl (all_cons rfl (all_cons rfl (all_cons rfl all_nil))))) (fun W5 hs own_b3_4 => ?_)
 have own_b3_4 : Own W5 b3_4 [(.int .u8 (x.k)), (.int .i64 (x.n)), (.string (x.t)), (.slice v15_4a (x.ns.length) v15_4c), (.slice none 0 0)] 33 := own_b3_4
 replace own_b2_2 := own_store own_b2_2 hs ne_b2_2_b3_4
 replace own_b1_2 := own_store own_b1_2 hs ne_b1_2_b3_4
 replace D_cn0 := sa_store D_cn0 hs (by simp)
 replace D_ci0 := sa_store D_ci0 hs (by simp)
 replace D_v15_4 := sf_store D_v15_4 hs (by simp)
 replace kw := keeps_store kw hs lo_b3_4
 clear hs
 refine zn (hK3 _ _ ?_)
 refine zq fun K6 hK6 => ?_
 refine zq fun K7 hK7 => ?_
 refine rg mixed y4 zz4 ?_
 refine .i (fo 4 (hbs rfl e1) Try.underlying33 rfl sz31 rfl) ?_
 refine .i (lo1 (hlc rfl) own_b1_2 trivial agg31 sz31 rfl) ?_
 refine .i (sp_lenVs Try.underlying31 ((hlc rfl).dat D_ci0 sub_all)) ?_
 refine .i (sp_move Has.cst) ?_
 refine .dn fun a8 g W8 y8 zz8 hk hg hV hR hP => ?_
 obtain ⟨e19, e18, e17, -, -⟩ := hV
 replace e2 := ft hR e2
 replace e3 := ft hR e3
 replace D_cn0 := D_cn0.ext hk
 replace D_ci0 := D_ci0.ext hk
 replace D_v15_4 := D_v15_4.ext hk
 replace e17 := e17.q
 replace e18 := e18.q
 replace e19 := e19.q
 replace own_b2_2 := own_b2_2.ext hk
 replace own_b1_2 := own_b1_2.ext hk
 replace own_b3_4 := own_b3_4.ext hk
 replace kw := kw.x hk
 clear hR hk hg hP
 refine zn (hK7 _ _ ?_)
 refine wp_block ?_
 replace D_ci0 := sa_less (M' := [b3_4, b2_2]) D_ci0 (ls_keep (ls_keep ls_nil))
 replace D_v15_4 := sf_less (M' := [b3_4, b2_2]) D_v15_4 (ls_keep (ls_keep ls_nil))
 have A_ar9 : Arr W8 w.heap.size 33 5 (SF w (blks none ++ (b3_4 :: (b2_2 :: [])))) (List.map V.d ([])) (.slice none 0 0) none := arr_nil _ _ _ _ _
 replace D_ci0 : Rd W8 (SA w S (blks none ++ (b3_4 :: (b2_2 :: [])))) (valsD (x.xs)) (.slice ci0a (x.xs.length) ci0c) := D_ci0
 replace D_v15_4 : Rd W8 (SF w (blks none ++ (b3_4 :: (b2_2 :: [])))) (strsD (x.ns)) (.slice v15_4a (x.ns.length) v15_4c) := D_v15_4
 refine wp_for (x.xs.length) (fun k a W => ∃ (va4_10 : Value), ∃ (hd4_10 : Option Nat), a.tmps.size = 32 ∧ a.defers = [] ∧ Keeps All w W ∧ sl a 2 = (.pointer (some ⟨b2_2, 0, none⟩)) ∧ sl a 3 = (.pointer (some ⟨b3_4, 0, none⟩)) ∧ sl a 17 = (.slice ci0a (x.xs.length) ci0c) ∧ sl a 18 = (.int .i64 (x.xs.length)) ∧ sl a 19 = (.int .i64 ((k : Nat))) ∧ Own W b2_2 z5C 33 ∧ Own W b3_4 [(.int .u8 (x.k)), (.int .i64 (x.n)), (.string (x.t)), (.slice v15_4a (x.ns.length) v15_4c), va4_10] 33 ∧ Rd W (SA w S (blks hd4_10 ++ (b3_4 :: (b2_2 :: [])))) (valsD (x.xs)) (.slice ci0a (x.xs.length) ci0c) ∧ Rd W (SF w (blks hd4_10 ++ (b3_4 :: (b2_2 :: [])))) (strsD (x.ns)) (.slice v15_4a (x.ns.length) v15_4c) ∧ Arr W w.heap.size 33 5 (SF w (blks hd4_10 ++ (b3_4 :: (b2_2 :: [])))) (List.map V.d (x.xs.take k)) va4_10 hd4_10 ∧ b2_2 ∉ blks hd4_10 ∧ b3_4 ∉ blks hd4_10) ⟨(.slice none 0 0), none, y8, zz8, kw, e2, e3, e17, e18, (e19.trans (congrArg (Value.int .i64) (rfl))), own_b2_2, own_b3_4, D_ci0, D_v15_4, A_ar9, nb_none, nb_none⟩ ?_
 clear kw e2 e3 e17 e18 e19 own_b2_2 own_b3_4 D_ci0 D_v15_4 A_ar9
 rintro k a10 W10 hkk ⟨va4_10, hd4_10, y10, zz10, kw, e2, e3, e17, e18, e19, own_b2_2, own_b3_4, D_ci0, D_v15_4, A4_10, nb_b2_2_ar9_10, nb_b3_4_ar9_10⟩
 refine zq fun K11 hK11 => ?_
 refine rg mixed y10 zz10 ?_
 refine .i (sp_lss (hbs rfl e19) (hbs rfl e18)) ?_
 refine .dn fun a12 g W12 y12 zz12 hk hg hV hR hP => ?_
 obtain ⟨e20, -⟩ := hV
 replace e2 := ft hR e2
 replace e3 := ft hR e3
 replace e17 := ft hR e17
 replace e18 := ft hR e18
 replace e19 := ft hR e19
 replace A4_10 := A4_10.ext hk
 replace D_ci0 := D_ci0.ext hk
 replace D_v15_4 := D_v15_4.ext hk
 replace e20 := e20.q
 replace own_b2_2 := own_b2_2.ext hk
 replace own_b3_4 := own_b3_4.ext hk
 replace kw := kw.x hk
 clear hR hk hg hP
 refine zn (hK11 _ _ ?_)
 refine zq fun K13 hK13 => ?_
 refine zc e20 (fun hc => ?_) (fun hc => ?_)
 ·
  have hlt : k < x.xs.length := by simpa using hc
  have hwm := wts_mem hlt
  refine wp_skip (hK13 _ _ ?_)
  refine zq fun K14 hK14 => ?_
  refine wp_block ?_
  refine zq fun K15 hK15 => ?_
  refine rg mixed y12 zz12 ?_
  refine .rf (sp_indexV (i := k) ((hbs rfl e17).dat D_ci0 sub_all) (hbs rfl e19) Try.underlying31 sz33 rfl hlt) ?_
  refine .da (sp_loadV (hlc rfl) agg33 sz33) ?_
  refine .alloc z33 ?_
  refine .dn fun a16 g W16 y16 zz16 hk hg hV hR hP => ?_
  obtain ⟨⟨b5_16, e5, hb5, own_b5_16⟩, e22, -, -⟩ := hV
  have lo_b5_16 : w.heap.size ≤ b5_16 := Nat.le_trans kw.size (hg.lo _ _ hb5)
  have ne_b2_2_b5_16 : b2_2 ≠ b5_16 := Nat.ne_of_lt (Nat.lt_of_lt_of_le own_b2_2.lt (hg.lo _ _ hb5))
  have ne_b3_4_b5_16 : b3_4 ≠ b5_16 := Nat.ne_of_lt (Nat.lt_of_lt_of_le own_b3_4.lt (hg.lo _ _ hb5))
  have own_b5_16 : Own W16 b5_16 z5C 33 := own_b5_16
  replace e2 := ft hR e2
  replace e3 := ft hR e3
  replace e17 := ft hR e17
  replace e18 := ft hR e18
  replace e19 := ft hR e19
  have hMx : ∀ b ∈ (blks hd4_10 ++ (b3_4 :: (b2_2 :: []))), b < W12.heap.size := (in_app A4_10.lt (in_cons own_b3_4.lt (in_cons own_b2_2.lt in_nil)))
  have nb_b5_16_ar9 : b5_16 ∉ blks hd4_10 := nb_lt A4_10.lt (hg.lo _ _ hb5)
  replace A4_10 : Arr W16 w.heap.size 33 5 (SF w (b5_16 :: (blks hd4_10 ++ (b3_4 :: (b2_2 :: []))))) (List.map V.d (x.xs.take k)) va4_10 hd4_10 := arrF_more A4_10 hk [b5_16] (in_cons (hg.lo _ _ hb5) in_nil)
  replace D_ci0 : Rd W16 (SA w S (b5_16 :: (blks hd4_10 ++ (b3_4 :: (b2_2 :: []))))) (valsD (x.xs)) (.slice ci0a (x.xs.length) ci0c) := sa_more D_ci0 hk [b5_16] (in_cons (hg.lo _ _ hb5) in_nil)
  replace D_v15_4 : Rd W16 (SF w (b5_16 :: (blks hd4_10 ++ (b3_4 :: (b2_2 :: []))))) (strsD (x.ns)) (.slice v15_4a (x.ns.length) v15_4c) := sf_more D_v15_4 hk [b5_16] (in_cons (hg.lo _ _ hb5) in_nil)
  obtain ⟨v22_16, ev⟩ : ∃ v, sl a16 22 = v := ⟨_, rfl⟩
  rw [ev] at e22
  have D_v22_16 : Rd W16 (SA w S (b5_16 :: (blks hd4_10 ++ (b3_4 :: (b2_2 :: []))))) (V.d (x.xs[k]'hlt)) v22_16 := sa_end e22 hk [b5_16] (in_cons ⟨_, hb5⟩ in_nil)
  replace e22 := ev; clear ev
  obtain ⟨cn22_16a, cn22_16c, ci22_16a, ci22_16c, ev, ht_v22_16, D_cn22_16, D_ci22_16⟩ := rdV_out D_v22_16
  subst ev; clear D_v22_16
  replace own_b2_2 := own_b2_2.ext hk
  replace own_b3_4 := own_b3_4.ext hk
  replace kw := kw.x hk
  clear hR hk hg hP hb5
  refine tail_store e5 e22 sz33 rfl own_b5_16 (lbr rfl) (all_cons rfl (all_cons rfl (all_cons rfl (all_cons rfl (all_cons rfl all_nil))))) (fun W17 hs own_b5_16 => ?_)
  have own_b5_16 : Own W17 b5_16 [(.int .u8 ((x.xs[k]'hlt).k)), (.int .i64 ((x.xs[k]'hlt).n)), (.string ((x.xs[k]'hlt).t)), (.slice cn22_16a (((x.xs[k]'hlt).ns).length) cn22_16c), (.slice ci22_16a (((x.xs[k]'hlt).xs).length) ci22_16c)] 33 := own_b5_16
  replace own_b2_2 := own_store own_b2_2 hs ne_b2_2_b5_16
  replace own_b3_4 := own_store own_b3_4 hs ne_b3_4_b5_16
  replace D_ci0 := sa_store D_ci0 hs (by simp)
  replace D_v15_4 := sf_store D_v15_4 hs (by simp)
  replace D_cn22_16 := sa_store D_cn22_16 hs (by simp)
  replace D_ci22_16 := sa_store D_ci22_16 hs (by simp)
  replace A4_10 := arrF_store A4_10 hs (by simp) nb_b5_16_ar9
  replace kw := keeps_store kw hs lo_b5_16
  clear hs
  refine zn (hK15 _ _ ?_)
  refine wp_reg (fun k => k ∉ blks hd4_10) (Ψ := fun W => Arr W w.heap.size 33 5 (SF w (b5_16 :: (blks hd4_10 ++ (b3_4 :: (b2_2 :: []))))) (List.map V.d (x.xs.take k)) va4_10 hd4_10) mixed y16 zz16 (fun W W' k h => h.ext k) A4_10 ?_
  refine .i (fo 4 (hbs rfl e3) Try.underlying33 rfl sz31 rfl) ?_
  refine .i (lo1 (hlc rfl) own_b3_4 nb_b3_4_ar9_10 agg31 sz31 rfl) ?_
  refine .i (v := (.agg #[(.int .u8 ((x.xs[k]'hlt).k)), (.int .i64 ((x.xs[k]'hlt).n)), (.string ((x.xs[k]'hlt).t)), (.slice cn22_16a (((x.xs[k]'hlt).ns).length) cn22_16c), (.slice ci22_16a (((x.xs[k]'hlt).xs).length) ci22_16c)])) (loA (hbs rfl e5) own_b5_16 nb_b5_16_ar9 agg33 sz33 rfl rfl) ?_
  refine .op (φ := IsD (Fr W17) (V.d ((x.xs[k]'hlt)))) (st_d (sub_frnb (fun b hb => A4_10.lt b hb))) (sp_call1 (φ1 := IsD (SA w S (b5_16 :: (blks hd4_10 ++ (b3_4 :: (b2_2 :: []))))) (V.d ((x.xs[k]'hlt)))) ent138 ((hlc rfl).dat (rdV_in (x := (x.xs[k]'hlt)) ht_v22_16 D_cn22_16 D_ci22_16 : Rd W17 (SA w S (b5_16 :: (blks hd4_10 ++ (b3_4 :: (b2_2 :: []))))) (V.d ((x.xs[k]'hlt))) _) (sub_nb (fun b hb => List.mem_cons_of_mem _ (List.mem_append_left _ hb)))) (fun g u1 W hk hgk h1 => (ih ((x.xs[k]'hlt)) (by omega) (by omega) W _ _ h1).mono (ret_fr hk hgk))) ?_
  refine .op (φ := IsD (SF w (b5_16 :: (blks hd4_10 ++ (b3_4 :: (b2_2 :: []))))) (valsD ([(x.xs[k]'hlt)]))) (st_d (sub_nbF (fun b hb => List.mem_cons_of_mem _ (List.mem_append_left _ hb)))) (sp_bsl (ds := [V.d ((x.xs[k]'hlt))]) Try.underlying31 sz33 z33 (lbr rfl) (lbr rfl) ⟨rfl, ((hlc rfl).sup (fr_sf kw (in_cons own_b5_16.lt (in_app A4_10.lt (in_cons own_b3_4.lt (in_cons own_b2_2.lt in_nil)))))), trivial⟩ rfl (by intro e he; simp at he; rcases he with rfl <;> exact width_V _) (fr_sf kw (in_cons own_b5_16.lt (in_app A4_10.lt (in_cons own_b3_4.lt (in_cons own_b2_2.lt in_nil)))))) ?_
  refine .appB (ds := List.map V.d (x.xs.take k)) (es := [V.d ((x.xs[k]'hlt))]) (X := SF w (b5_16 :: (blks hd4_10 ++ (b3_4 :: (b2_2 :: []))))) Try.underlying31 inf33 (lbr rfl) (hlc rfl) (hlc rfl) (sub_nbF (fun b hb => List.mem_cons_of_mem _ (List.mem_append_left _ hb))) (by simp [maxLen]; omega) (by simp; omega) kw.size ?_
  refine .i (fo 4 (hbs rfl e3) Try.underlying33 rfl sz31 rfl) ?_
  refine .dn fun a18 g W18 y18 zz18 hk hg hV hR hP => ?_
  obtain ⟨e29, e28, -, -, -, -, -, -⟩ := hV
  replace e2 := ft hR e2
  replace e3 := ft hR e3
  replace e17 := ft hR e17
  replace e18 := ft hR e18
  replace e19 := ft hR e19
  obtain ⟨v28_18, ev⟩ : ∃ v, sl a18 28 = v := ⟨_, rfl⟩
  rw [ev] at e28
  obtain ⟨hd28_18, A_28_18, hf28_18⟩ := e28
  have e28 := ev; clear ev
  obtain ⟨v28_18a, v28_18n, v28_18c, ev⟩ := arr_sl A_28_18; subst ev
  replace A_28_18 := arrF_new (M' := (b5_16 :: (blks hd28_18 ++ (b3_4 :: (b2_2 :: []))))) A_28_18 (rep_cons (rep_app (rep_q fun _ h => h) (rep_cons (rep_cons rep_nil))))
  replace A_28_18 : Arr W18 w.heap.size 33 5 (SF w (b5_16 :: (blks hd28_18 ++ (b3_4 :: (b2_2 :: []))))) (List.map V.d ((x.xs.take k) ++ [(x.xs[k]'hlt)])) (.slice v28_18a v28_18n v28_18c) hd28_18 := by first | exact A_28_18 | (rw [List.map_append]; exact A_28_18)
  have nb_b2_2_18 : b2_2 ∉ blks hd28_18 := nb_new nb_b2_2_ar9_10 own_b2_2.lt hf28_18
  have nb_b3_4_18 : b3_4 ∉ blks hd28_18 := nb_new nb_b3_4_ar9_10 own_b3_4.lt hf28_18
  have nb_b5_16_18 : b5_16 ∉ blks hd28_18 := nb_new nb_b5_16_ar9 own_b5_16.lt hf28_18
  replace D_ci0 := sa_app (M' := (b5_16 :: (blks hd28_18 ++ (b3_4 :: (b2_2 :: []))))) D_ci0 hk (fun b hb => List.mem_cons_of_mem _ (List.mem_append_left _ hb)) (rep_cons (rep_app hf28_18 (rep_cons (rep_cons rep_nil))))
  replace D_v15_4 := sf_app (M' := (b5_16 :: (blks hd28_18 ++ (b3_4 :: (b2_2 :: []))))) D_v15_4 hk (fun b hb => List.mem_cons_of_mem _ (List.mem_append_left _ hb)) (rep_cons (rep_app hf28_18 (rep_cons (rep_cons rep_nil))))
  replace D_cn22_16 := sa_app (M' := (b5_16 :: (blks hd28_18 ++ (b3_4 :: (b2_2 :: []))))) D_cn22_16 hk (fun b hb => List.mem_cons_of_mem _ (List.mem_append_left _ hb)) (rep_cons (rep_app hf28_18 (rep_cons (rep_cons rep_nil))))
  replace D_ci22_16 := sa_app (M' := (b5_16 :: (blks hd28_18 ++ (b3_4 :: (b2_2 :: []))))) D_ci22_16 hk (fun b hb => List.mem_cons_of_mem _ (List.mem_append_left _ hb)) (rep_cons (rep_app hf28_18 (rep_cons (rep_cons rep_nil))))
  replace own_b2_2 := own_app own_b2_2 hk nb_b2_2_ar9_10
  replace own_b3_4 := own_app own_b3_4 hk nb_b3_4_ar9_10
  replace own_b5_16 := own_app own_b5_16 hk nb_b5_16_ar9
  replace kw := keeps_app kw hk A4_10.ge
  have e29 : sl a18 29 = (.pointer (some ⟨b3_4, 4, none⟩)) := e29
  clear hR hk hg hP hf28_18 A4_10
  refine tail_store e29 e28 sz31 rfl own_b3_4 (lbr rfl) (all_cons rfl all_nil) (fun W19 hs own_b3_4 => ?_)
  have own_b3_4 : Own W19 b3_4 [(.int .u8 (x.k)), (.int .i64 (x.n)), (.string (x.t)), (.slice v15_4a (x.ns.length) v15_4c), (.slice v28_18a v28_18n v28_18c)] 33 := own_b3_4
  replace own_b2_2 := own_store own_b2_2 hs ne_b2_2_b3_4
  replace own_b5_16 := own_store own_b5_16 hs ne_b3_4_b5_16.symm
  replace D_ci0 := sa_store D_ci0 hs (by simp)
  replace D_v15_4 := sf_store D_v15_4 hs (by simp)
  replace D_cn22_16 := sa_store D_cn22_16 hs (by simp)
  replace D_ci22_16 := sa_store D_ci22_16 hs (by simp)
  replace A_28_18 := arrF_store A_28_18 hs (by simp) nb_b3_4_18
  replace kw := keeps_store kw hs lo_b3_4
  clear hs
  refine zn (hK14 _ _ ?_)
  refine rg mixed y18 zz18 ?_
  refine .i (sp_add (hbs rfl e19) Has.cst (i64_in (by omega))) ?_
  refine .i (sp_move (hlc rfl)) ?_
  refine .dn fun a20 g W20 y20 zz20 hk hg hV hR hP => ?_
  obtain ⟨e19, -, -⟩ := hV
  replace e2 := ft hR e2
  replace e3 := ft hR e3
  replace e17 := ft hR e17
  replace e18 := ft hR e18
  replace A_28_18 := A_28_18.ext hk
  replace D_ci0 := D_ci0.ext hk
  replace D_v15_4 := D_v15_4.ext hk
  replace e19 := e19.q
  replace own_b2_2 := own_b2_2.ext hk
  replace own_b3_4 := own_b3_4.ext hk
  replace own_b5_16 := own_b5_16.ext hk
  replace kw := kw.x hk
  clear hR hk hg hP
  rw [show (x.xs.take k) ++ [(x.xs[k]'hlt)] = x.xs.take (k + 1) by rw [List.take_succ_eq_append_getElem hlt]] at A_28_18
  exact tail_nil ⟨hlt, (.slice v28_18a v28_18n v28_18c), hd28_18, y20, zz20, kw, e2, e3, e17, e18, (e19.trans (congrArg (Value.int .i64) (by simp))), own_b2_2, own_b3_4, (sa_less D_ci0 (ls_skip (ls_keepA (ls_keep (ls_keep ls_nil))))), (sf_less D_v15_4 (ls_skip (ls_keepA (ls_keep (ls_keep ls_nil))))), (arrF_less A_28_18 (ls_skip (ls_keepA (ls_keep (ls_keep ls_nil))))), nb_b2_2_18, nb_b3_4_18⟩
 have hge0 : ¬ k < x.xs.length := by simpa using hc
 have hge : k = x.xs.length := by omega
 rw [show x.xs.take k = x.xs by rw [hge, List.take_length]] at A4_10
 have D_va4_10 : Rd W12 (SF w [b3_4, b2_2]) (valsD (x.xs)) va4_10 := arrF_rd A4_10 (ls_skipA (ls_keep (ls_keep ls_nil))) (nin_cons nb_b3_4_ar9_10 (nin_cons nb_b2_2_ar9_10 nin_nil))
 obtain ⟨va4_10a, va4_10c, ev, D2⟩ := rdVs_out D_va4_10
 subst ev; replace D_va4_10 := D2; clear D2
 replace D_ci0 := sa_less (M' := [b3_4, b2_2]) D_ci0 (ls_skipA (ls_keep (ls_keep ls_nil)))
 replace D_v15_4 := sf_less (M' := [b3_4, b2_2]) D_v15_4 (ls_skipA (ls_keep (ls_keep ls_nil)))
 refine wp_exit (hK6 _ _ ?_)
 refine zq fun K21 hK21 => ?_
 refine rg mixed y12 zz12 ?_
 refine .i (v := (.agg #[(.int .u8 (x.k)), (.int .i64 (x.n)), (.string (x.t)), (.slice v15_4a (x.ns.length) v15_4c), (.slice va4_10a (x.xs.length) va4_10c)])) (loA (hbs rfl e3) own_b3_4 trivial agg33 sz33 rfl rfl) ?_
 refine .dn fun a22 g W22 y22 zz22 hk hg hV hR hP => ?_
 obtain ⟨e31, -⟩ := hV
 replace e2 := ft hR e2
 replace D_ci0 := D_ci0.ext hk
 replace D_v15_4 := D_v15_4.ext hk
 replace D_va4_10 := D_va4_10.ext hk
 replace e31 := e31.q
 replace own_b2_2 := own_b2_2.ext hk
 replace own_b3_4 := own_b3_4.ext hk
 replace kw := kw.x hk
 clear hR hk hg hP
 refine tail_store e2 e31 sz33 rfl own_b2_2 (lbr rfl) (all_cons rfl (all_cons rfl (all_cons rfl (all_cons rfl (all_cons rfl all_nil))))) (fun W23 hs own_b2_2 => ?_)
 have own_b2_2 : Own W23 b2_2 [(.int .u8 (x.k)), (.int .i64 (x.n)), (.string (x.t)), (.slice v15_4a (x.ns.length) v15_4c), (.slice va4_10a (x.xs.length) va4_10c)] 33 := own_b2_2
 replace own_b3_4 := own_store own_b3_4 hs ne_b2_2_b3_4.symm
 replace D_ci0 := sa_store D_ci0 hs (by simp)
 replace D_v15_4 := sf_store D_v15_4 hs (by simp)
 replace D_va4_10 := sf_store D_va4_10 hs (by simp)
 replace kw := keeps_store kw hs lo_b2_2
 clear hs
 refine zn (hK21 _ _ ?_)
 refine wp_ret ?_
 refine retC (v := (.agg #[(.int .u8 (x.k)), (.int .i64 (x.n)), (.string (x.t)), (.slice v15_4a (x.ns.length) v15_4c), (.slice va4_10a (x.xs.length) va4_10c)])) rfl zz22 e2 own_b2_2 agg33 sz33 rfl (fun h => by cases h) rfl ⟨_, rfl, kw, ?_⟩
 exact sf_fr (rdV_in (x := x) ht0 D_v15_4 D_va4_10 : Rd W23 (SF w [b3_4, b2_2]) (V.d (x)) _)
set_option maxRecDepth 100000 in
theorem Copy_ok (x : V) (hx : x.wt ≤ 1073741824) (w : World) (S : BSet) (v : Value) (hS : ∀ b o, S b o → Cln o) (hv : Rd w S x.d v) : Calls Try.prog 79 #[v] w (Ret w fun u W => Rd W (Fr w) x.d u) := by
 have hwx := wt_eq x
 have hwl := wts_len x.xs
 have hwn := wtN_len x.ns
 obtain ⟨cn0a, cn0c, ci0a, ci0c, ev, ht0, D_cn0, D_ci0⟩ := rdV_out (rd_arg hv)
 subst ev
 refine enter Try.func79 rfl Try.ntmps79 (lbr rfl) fun a0 y0 zz0 harg => ?_
 have e0 : sl a0 0 = (.agg #[(.int .u8 (x.k)), (.int .i64 (x.n)), (.string (x.t)), (.slice cn0a (x.ns.length) cn0c), (.slice ci0a (x.xs.length) ci0c)]) := harg 0 (lbr rfl)
 have kw := Keeps.refl All w
 clear harg
 refine zq fun K1 hK1 => ?_
 refine rg mixed y0 zz0 ?_
 refine .boxOp (v := (.agg #[(.int .u8 (x.k)), (.int .i64 (x.n)), (.string (x.t)), (.slice cn0a (x.ns.length) cn0c), (.slice ci0a (x.xs.length) ci0c)])) (hbs rfl e0) ?_
 refine .alloc z33 ?_
 refine .dn fun a2 g W2 y2 zz2 hk hg hV hR hP => ?_
 obtain ⟨⟨b2_2, e2, hb2, own_b2_2⟩, ⟨b1_2, e1, hb1, own_b1_2⟩, -⟩ := hV
 have lo_b2_2 : w.heap.size ≤ b2_2 := Nat.le_trans kw.size (hg.lo _ _ hb2)
 have own_b2_2 : Own W2 b2_2 z5C 33 := own_b2_2
 have lo_b1_2 : w.heap.size ≤ b1_2 := Nat.le_trans kw.size (hg.lo _ _ hb1)
 have own_b1_2 : Own W2 b1_2 [(.int .u8 (x.k)), (.int .i64 (x.n)), (.string (x.t)), (.slice cn0a (x.ns.length) cn0c), (.slice ci0a (x.xs.length) ci0c)] 33 := own_b1_2
 have ne_b2_2_b1_2 : b2_2 ≠ b1_2 := fun h => by have := hg.inj _ _ _ hb2 (h ▸ hb1); cases this
 replace D_cn0 := sa_more D_cn0 hk [b2_2, b1_2] (in_cons (hg.lo _ _ hb2) (in_cons (hg.lo _ _ hb1) in_nil))
 replace D_ci0 := sa_more D_ci0 hk [b2_2, b1_2] (in_cons (hg.lo _ _ hb2) (in_cons (hg.lo _ _ hb1) in_nil))
 replace kw := kw.x hk
 clear hR hk hg hP hb2 hb1
 refine zn (hK1 _ _ ?_)
 refine zq fun K3 hK3 => ?_
 refine rg mixed y2 zz2 ?_
 refine .i (fo 0 (hbs rfl e1) Try.underlying33 rfl sz5 rfl) ?_
 refine .i (lo1 (hlc rfl) own_b1_2 trivial agg5 sz5 rfl) ?_
 refine .i (fo 1 (hbs rfl e1) Try.underlying33 rfl sz2 rfl) ?_
 refine .i (lo1 (hlc rfl) own_b1_2 trivial agg2 sz2 rfl) ?_
 refine .i (fo 2 (hbs rfl e1) Try.underlying33 rfl sz9 rfl) ?_
 refine .i (lo1 (hlc rfl) own_b1_2 trivial agg9 sz9 rfl) ?_
 refine .i (fo 3 (hbs rfl e1) Try.underlying33 rfl sz23 rfl) ?_
 refine .i (lo1 (hlc rfl) own_b1_2 trivial agg23 sz23 rfl) ?_
 refine .da (X := Fr W2) (e := strsD (x.ns)) (sp_call1 (φ1 := IsD (SA w S [b2_2, b1_2]) (strsD (x.ns))) ent136 ((hlc rfl).dat D_cn0 sub_all) (fun g u1 W hk hgk h1 => (clone_ok (x.ns) (by omega) W _ _ h1).mono (ret_fr hk hgk))) ?_
 refine .op (φ := IsHole (fun v => .agg #[(.int .u8 (x.k)), (.int .i64 (x.n)), (.string (x.t)), v, (.slice none 0 0)]) (IsD (Fr W2) (strsD (x.ns)))) (st_hole (st_d sub_all)) (sp_build1 (vs := [(0, some (.int .u8 (x.k))), (1, some (.int .i64 (x.n))), (2, some (.string (x.t))), (3, none)]) (cells := fun v => #[(.int .u8 (x.k)), (.int .i64 (x.n)), (.string (x.t)), v, (.slice none 0 0)]) Try.underlying33 z33 (pl33 Try.underlying33) (hlc rfl) (fun _ => by simp [Op.operands]) sl_strs ⟨rfl, (hlc rfl), ⟨rfl, (hlc rfl), ⟨rfl, (hlc rfl), ⟨rfl, rfl, trivial⟩⟩⟩⟩ (fun _ _ _ => rfl)) ?_
 refine .alloc z33 ?_
 refine .dn fun a4 g W4 y4 zz4 hk hg hV hR hP => ?_
 obtain ⟨⟨b3_4, e3, hb3, own_b3_4⟩, e15, -, -, -, -, -, -, -, -, -, -⟩ := hV
 have lo_b3_4 : w.heap.size ≤ b3_4 := Nat.le_trans kw.size (hg.lo _ _ hb3)
 have ne_b2_2_b3_4 : b2_2 ≠ b3_4 := Nat.ne_of_lt (Nat.lt_of_lt_of_le own_b2_2.lt (hg.lo _ _ hb3))
 have ne_b1_2_b3_4 : b1_2 ≠ b3_4 := Nat.ne_of_lt (Nat.lt_of_lt_of_le own_b1_2.lt (hg.lo _ _ hb3))
 have own_b3_4 : Own W4 b3_4 z5C 33 := own_b3_4
 replace e2 := ft hR e2
 replace e1 := ft hR e1
 replace D_cn0 := sa_more D_cn0 hk [b3_4] (in_cons (hg.lo _ _ hb3) in_nil)
 replace D_ci0 := sa_more D_ci0 hk [b3_4] (in_cons (hg.lo _ _ hb3) in_nil)
 obtain ⟨v15_4a, v15_4n, v15_4c, ev, D_v15_4⟩ := e15
 replace D_v15_4 : Rd W4 (SF w [b3_4, b2_2, b1_2]) (strsD (x.ns)) _ := fr_end (M := [b2_2, b1_2]) D_v15_4 kw [b3_4] (in_cons ⟨_, hb3⟩ in_nil) (in_cons own_b2_2.lt (in_cons own_b1_2.lt in_nil))
 obtain ⟨xa, xc, ev2, D2⟩ := rdS_out D_v15_4
 injection ev2 with h1 h2 h3; subst h1 h2 h3; clear D2
 have e15 : sl a4 15 = (.agg #[(.int .u8 (x.k)), (.int .i64 (x.n)), (.string (x.t)), (.slice v15_4a (x.ns.length) v15_4c), (.slice none 0 0)]) := ev; clear ev
 replace own_b2_2 := own_b2_2.ext hk
 replace own_b1_2 := own_b1_2.ext hk
 replace kw := kw.x hk
 clear hR hk hg hP hb3
 refine tail_store e3 e15 sz33 rfl own_b3_4 (lbr rfl) (all_cons rfl (all_cons rfl (all_cons rfl (all_cons rfl (all_cons rfl all_nil))))) (fun W5 hs own_b3_4 => ?_)
 have own_b3_4 : Own W5 b3_4 [(.int .u8 (x.k)), (.int .i64 (x.n)), (.string (x.t)), (.slice v15_4a (x.ns.length) v15_4c), (.slice none 0 0)] 33 := own_b3_4
 replace own_b2_2 := own_store own_b2_2 hs ne_b2_2_b3_4
 replace own_b1_2 := own_store own_b1_2 hs ne_b1_2_b3_4
 replace D_cn0 := sa_store D_cn0 hs (by simp)
 replace D_ci0 := sa_store D_ci0 hs (by simp)
 replace D_v15_4 := sf_store D_v15_4 hs (by simp)
 replace kw := keeps_store kw hs lo_b3_4
 clear hs
 refine zn (hK3 _ _ ?_)
 refine zq fun K6 hK6 => ?_
 refine zq fun K7 hK7 => ?_
 refine rg mixed y4 zz4 ?_
 refine .i (fo 4 (hbs rfl e1) Try.underlying33 rfl sz31 rfl) ?_
 refine .i (lo1 (hlc rfl) own_b1_2 trivial agg31 sz31 rfl) ?_
 refine .i (sp_lenVs Try.underlying31 ((hlc rfl).dat D_ci0 sub_all)) ?_
 refine .i (sp_move Has.cst) ?_
 refine .dn fun a8 g W8 y8 zz8 hk hg hV hR hP => ?_
 obtain ⟨e19, e18, e17, -, -⟩ := hV
 replace e2 := ft hR e2
 replace e3 := ft hR e3
 replace D_cn0 := D_cn0.ext hk
 replace D_ci0 := D_ci0.ext hk
 replace D_v15_4 := D_v15_4.ext hk
 replace e17 := e17.q
 replace e18 := e18.q
 replace e19 := e19.q
 replace own_b2_2 := own_b2_2.ext hk
 replace own_b1_2 := own_b1_2.ext hk
 replace own_b3_4 := own_b3_4.ext hk
 replace kw := kw.x hk
 clear hR hk hg hP
 refine zn (hK7 _ _ ?_)
 refine wp_block ?_
 replace D_ci0 := sa_less (M' := [b3_4, b2_2]) D_ci0 (ls_keep (ls_keep ls_nil))
 replace D_v15_4 := sf_less (M' := [b3_4, b2_2]) D_v15_4 (ls_keep (ls_keep ls_nil))
 have A_ar9 : Arr W8 w.heap.size 33 5 (SF w (blks none ++ (b3_4 :: (b2_2 :: [])))) (List.map V.d ([])) (.slice none 0 0) none := arr_nil _ _ _ _ _
 replace D_ci0 : Rd W8 (SA w S (blks none ++ (b3_4 :: (b2_2 :: [])))) (valsD (x.xs)) (.slice ci0a (x.xs.length) ci0c) := D_ci0
 replace D_v15_4 : Rd W8 (SF w (blks none ++ (b3_4 :: (b2_2 :: [])))) (strsD (x.ns)) (.slice v15_4a (x.ns.length) v15_4c) := D_v15_4
 refine wp_for (x.xs.length) (fun k a W => ∃ (va4_10 : Value), ∃ (hd4_10 : Option Nat), a.tmps.size = 36 ∧ a.defers = [] ∧ Keeps All w W ∧ sl a 2 = (.pointer (some ⟨b2_2, 0, none⟩)) ∧ sl a 3 = (.pointer (some ⟨b3_4, 0, none⟩)) ∧ sl a 17 = (.slice ci0a (x.xs.length) ci0c) ∧ sl a 18 = (.int .i64 (x.xs.length)) ∧ sl a 19 = (.int .i64 ((k : Nat))) ∧ Own W b2_2 z5C 33 ∧ Own W b3_4 [(.int .u8 (x.k)), (.int .i64 (x.n)), (.string (x.t)), (.slice v15_4a (x.ns.length) v15_4c), va4_10] 33 ∧ Rd W (SA w S (blks hd4_10 ++ (b3_4 :: (b2_2 :: [])))) (valsD (x.xs)) (.slice ci0a (x.xs.length) ci0c) ∧ Rd W (SF w (blks hd4_10 ++ (b3_4 :: (b2_2 :: [])))) (strsD (x.ns)) (.slice v15_4a (x.ns.length) v15_4c) ∧ Arr W w.heap.size 33 5 (SF w (blks hd4_10 ++ (b3_4 :: (b2_2 :: [])))) (List.map V.d (x.xs.take k)) va4_10 hd4_10 ∧ b2_2 ∉ blks hd4_10 ∧ b3_4 ∉ blks hd4_10) ⟨(.slice none 0 0), none, y8, zz8, kw, e2, e3, e17, e18, (e19.trans (congrArg (Value.int .i64) (rfl))), own_b2_2, own_b3_4, D_ci0, D_v15_4, A_ar9, nb_none, nb_none⟩ ?_
 clear kw e2 e3 e17 e18 e19 own_b2_2 own_b3_4 D_ci0 D_v15_4 A_ar9
 rintro k a10 W10 hkk ⟨va4_10, hd4_10, y10, zz10, kw, e2, e3, e17, e18, e19, own_b2_2, own_b3_4, D_ci0, D_v15_4, A4_10, nb_b2_2_ar9_10, nb_b3_4_ar9_10⟩
 refine zq fun K11 hK11 => ?_
 refine rg mixed y10 zz10 ?_
 refine .i (sp_lss (hbs rfl e19) (hbs rfl e18)) ?_
 refine .dn fun a12 g W12 y12 zz12 hk hg hV hR hP => ?_
 obtain ⟨e20, -⟩ := hV
 replace e2 := ft hR e2
 replace e3 := ft hR e3
 replace e17 := ft hR e17
 replace e18 := ft hR e18
 replace e19 := ft hR e19
 replace A4_10 := A4_10.ext hk
 replace D_ci0 := D_ci0.ext hk
 replace D_v15_4 := D_v15_4.ext hk
 replace e20 := e20.q
 replace own_b2_2 := own_b2_2.ext hk
 replace own_b3_4 := own_b3_4.ext hk
 replace kw := kw.x hk
 clear hR hk hg hP
 refine zn (hK11 _ _ ?_)
 refine zq fun K13 hK13 => ?_
 refine zc e20 (fun hc => ?_) (fun hc => ?_)
 ·
  have hlt : k < x.xs.length := by simpa using hc
  have hwm := wts_mem hlt
  have hwc := cnts_wts (x.xs[k]).xs
  have hwe := wt_eq x.xs[k]
  refine wp_skip (hK13 _ _ ?_)
  refine zq fun K14 hK14 => ?_
  refine wp_block ?_
  refine zq fun K15 hK15 => ?_
  refine rg mixed y12 zz12 ?_
  refine .rf (sp_indexV (i := k) ((hbs rfl e17).dat D_ci0 sub_all) (hbs rfl e19) Try.underlying31 sz33 rfl hlt) ?_
  refine .da (sp_loadV (hlc rfl) agg33 sz33) ?_
  refine .alloc z33 ?_
  refine .dn fun a16 g W16 y16 zz16 hk hg hV hR hP => ?_
  obtain ⟨⟨b5_16, e5, hb5, own_b5_16⟩, e22, -, -⟩ := hV
  have lo_b5_16 : w.heap.size ≤ b5_16 := Nat.le_trans kw.size (hg.lo _ _ hb5)
  have ne_b2_2_b5_16 : b2_2 ≠ b5_16 := Nat.ne_of_lt (Nat.lt_of_lt_of_le own_b2_2.lt (hg.lo _ _ hb5))
  have ne_b3_4_b5_16 : b3_4 ≠ b5_16 := Nat.ne_of_lt (Nat.lt_of_lt_of_le own_b3_4.lt (hg.lo _ _ hb5))
  have own_b5_16 : Own W16 b5_16 z5C 33 := own_b5_16
  replace e2 := ft hR e2
  replace e3 := ft hR e3
  replace e17 := ft hR e17
  replace e18 := ft hR e18
  replace e19 := ft hR e19
  have hMx : ∀ b ∈ (blks hd4_10 ++ (b3_4 :: (b2_2 :: []))), b < W12.heap.size := (in_app A4_10.lt (in_cons own_b3_4.lt (in_cons own_b2_2.lt in_nil)))
  have nb_b5_16_ar9 : b5_16 ∉ blks hd4_10 := nb_lt A4_10.lt (hg.lo _ _ hb5)
  replace A4_10 : Arr W16 w.heap.size 33 5 (SF w (b5_16 :: (blks hd4_10 ++ (b3_4 :: (b2_2 :: []))))) (List.map V.d (x.xs.take k)) va4_10 hd4_10 := arrF_more A4_10 hk [b5_16] (in_cons (hg.lo _ _ hb5) in_nil)
  replace D_ci0 : Rd W16 (SA w S (b5_16 :: (blks hd4_10 ++ (b3_4 :: (b2_2 :: []))))) (valsD (x.xs)) (.slice ci0a (x.xs.length) ci0c) := sa_more D_ci0 hk [b5_16] (in_cons (hg.lo _ _ hb5) in_nil)
  replace D_v15_4 : Rd W16 (SF w (b5_16 :: (blks hd4_10 ++ (b3_4 :: (b2_2 :: []))))) (strsD (x.ns)) (.slice v15_4a (x.ns.length) v15_4c) := sf_more D_v15_4 hk [b5_16] (in_cons (hg.lo _ _ hb5) in_nil)
  obtain ⟨v22_16, ev⟩ : ∃ v, sl a16 22 = v := ⟨_, rfl⟩
  rw [ev] at e22
  have D_v22_16 : Rd W16 (SA w S (b5_16 :: (blks hd4_10 ++ (b3_4 :: (b2_2 :: []))))) (V.d (x.xs[k]'hlt)) v22_16 := sa_end e22 hk [b5_16] (in_cons ⟨_, hb5⟩ in_nil)
  replace e22 := ev; clear ev
  obtain ⟨cn22_16a, cn22_16c, ci22_16a, ci22_16c, ev, ht_v22_16, D_cn22_16, D_ci22_16⟩ := rdV_out D_v22_16
  subst ev; clear D_v22_16
  replace own_b2_2 := own_b2_2.ext hk
  replace own_b3_4 := own_b3_4.ext hk
  replace kw := kw.x hk
  clear hR hk hg hP hb5
  refine tail_store e5 e22 sz33 rfl own_b5_16 (lbr rfl) (all_cons rfl (all_cons rfl (all_cons rfl (all_cons rfl (all_cons rfl all_nil))))) (fun W17 hs own_b5_16 => ?_)
  have own_b5_16 : Own W17 b5_16 [(.int .u8 ((x.xs[k]'hlt).k)), (.int .i64 ((x.xs[k]'hlt).n)), (.string ((x.xs[k]'hlt).t)), (.slice cn22_16a (((x.xs[k]'hlt).ns).length) cn22_16c), (.slice ci22_16a (((x.xs[k]'hlt).xs).length) ci22_16c)] 33 := own_b5_16
  replace own_b2_2 := own_store own_b2_2 hs ne_b2_2_b5_16
  replace own_b3_4 := own_store own_b3_4 hs ne_b3_4_b5_16
  replace D_ci0 := sa_store D_ci0 hs (by simp)
  replace D_v15_4 := sf_store D_v15_4 hs (by simp)
  replace D_cn22_16 := sa_store D_cn22_16 hs (by simp)
  replace D_ci22_16 := sa_store D_ci22_16 hs (by simp)
  replace A4_10 := arrF_store A4_10 hs (by simp) nb_b5_16_ar9
  replace kw := keeps_store kw hs lo_b5_16
  clear hs
  refine zn (hK15 _ _ ?_)
  refine zq fun K18 hK18 => ?_
  refine zq fun K19 hK19 => ?_
  refine rg mixed y16 zz16 ?_
  refine .i (fo 4 (hbs rfl e5) Try.underlying33 rfl sz31 rfl) ?_
  refine .i (lo1 (hlc rfl) own_b5_16 trivial agg31 sz31 rfl) ?_
  refine .i (v := (.bool (false))) (sp_call4 (φ1 := IsD (SA w S (b5_16 :: (blks hd4_10 ++ (b3_4 :: (b2_2 :: []))))) (valsD ((x.xs[k]'hlt).xs))) (φ2 := Is (.int .i64 (1))) (φ3 := Is (.pointer none)) (φ4 := Is (.bool (false))) ent137 ((hlc rfl).dat D_ci22_16 sub_all) Has.cst Has.cst Has.cst (fun g u1 u2 u3 u4 W hk hgk h1 h2 h3 h4 => by have h2 : u2 = _ := h2; subst u2; have h3 : u3 = _ := h3; subst u3; have h4 : u4 = _ := h4; subst u4; exact endless_all _ ((x.xs[k]'hlt).xs) (Nat.lt_succ_self _) (1) (by omega) (by omega) (false) _ W _ _ (fun b o h => sa_cln hS b o h.1) h1 (Or.inl rfl))) ?_
  refine .dn fun a20 g W20 y20 zz20 hk hg hV hR hP => ?_
  obtain ⟨e25, -, -, -⟩ := hV
  replace e2 := ft hR e2
  replace e3 := ft hR e3
  replace e17 := ft hR e17
  replace e18 := ft hR e18
  replace e19 := ft hR e19
  replace e5 := ft hR e5
  replace A4_10 := A4_10.ext hk
  replace D_ci0 := D_ci0.ext hk
  replace D_v15_4 := D_v15_4.ext hk
  replace D_cn22_16 := D_cn22_16.ext hk
  replace D_ci22_16 := D_ci22_16.ext hk
  replace e25 := e25.q
  replace own_b2_2 := own_b2_2.ext hk
  replace own_b3_4 := own_b3_4.ext hk
  replace own_b5_16 := own_b5_16.ext hk
  replace kw := kw.x hk
  clear hR hk hg hP
  refine zn (hK19 _ _ ?_)
  refine wp_cond_false e25 ?_
  refine wp_skip (hK18 _ _ ?_)
  refine wp_reg (fun k => k ∉ blks hd4_10) (Ψ := fun W => Arr W w.heap.size 33 5 (SF w (b5_16 :: (blks hd4_10 ++ (b3_4 :: (b2_2 :: []))))) (List.map V.d (x.xs.take k)) va4_10 hd4_10) mixed y20 zz20 (fun W W' k h => h.ext k) A4_10 ?_
  refine .i (fo 4 (hbs rfl e3) Try.underlying33 rfl sz31 rfl) ?_
  refine .i (lo1 (hlc rfl) own_b3_4 nb_b3_4_ar9_10 agg31 sz31 rfl) ?_
  refine .i (v := (.agg #[(.int .u8 ((x.xs[k]'hlt).k)), (.int .i64 ((x.xs[k]'hlt).n)), (.string ((x.xs[k]'hlt).t)), (.slice cn22_16a (((x.xs[k]'hlt).ns).length) cn22_16c), (.slice ci22_16a (((x.xs[k]'hlt).xs).length) ci22_16c)])) (loA (hbs rfl e5) own_b5_16 nb_b5_16_ar9 agg33 sz33 rfl rfl) ?_
  refine .op (φ := IsD (Fr W20) (V.d ((x.xs[k]'hlt)))) (st_d (sub_frnb (fun b hb => A4_10.lt b hb))) (sp_call1 (φ1 := IsD (SA w S (b5_16 :: (blks hd4_10 ++ (b3_4 :: (b2_2 :: []))))) (V.d ((x.xs[k]'hlt)))) ent138 ((hlc rfl).dat (rdV_in (x := (x.xs[k]'hlt)) ht_v22_16 D_cn22_16 D_ci22_16 : Rd W20 (SA w S (b5_16 :: (blks hd4_10 ++ (b3_4 :: (b2_2 :: []))))) (V.d ((x.xs[k]'hlt))) _) (sub_nb (fun b hb => List.mem_cons_of_mem _ (List.mem_append_left _ hb)))) (fun g u1 W hk hgk h1 => (duplicate_all _ ((x.xs[k]'hlt)) (Nat.le_refl _) (by omega) W _ _ h1).mono (ret_fr hk hgk))) ?_
  refine .op (φ := IsD (SF w (b5_16 :: (blks hd4_10 ++ (b3_4 :: (b2_2 :: []))))) (valsD ([(x.xs[k]'hlt)]))) (st_d (sub_nbF (fun b hb => List.mem_cons_of_mem _ (List.mem_append_left _ hb)))) (sp_bsl (ds := [V.d ((x.xs[k]'hlt))]) Try.underlying31 sz33 z33 (lbr rfl) (lbr rfl) ⟨rfl, ((hlc rfl).sup (fr_sf kw (in_cons own_b5_16.lt (in_app A4_10.lt (in_cons own_b3_4.lt (in_cons own_b2_2.lt in_nil)))))), trivial⟩ rfl (by intro e he; simp at he; rcases he with rfl <;> exact width_V _) (fr_sf kw (in_cons own_b5_16.lt (in_app A4_10.lt (in_cons own_b3_4.lt (in_cons own_b2_2.lt in_nil)))))) ?_
  refine .appB (ds := List.map V.d (x.xs.take k)) (es := [V.d ((x.xs[k]'hlt))]) (X := SF w (b5_16 :: (blks hd4_10 ++ (b3_4 :: (b2_2 :: []))))) Try.underlying31 inf33 (lbr rfl) (hlc rfl) (hlc rfl) (sub_nbF (fun b hb => List.mem_cons_of_mem _ (List.mem_append_left _ hb))) (by simp [maxLen]; omega) (by simp; omega) kw.size ?_
  refine .i (fo 4 (hbs rfl e3) Try.underlying33 rfl sz31 rfl) ?_
  refine .dn fun a21 g W21 y21 zz21 hk hg hV hR hP => ?_
  obtain ⟨e33, e32, -, -, -, -, -, -⟩ := hV
  replace e2 := ft hR e2
  replace e3 := ft hR e3
  replace e17 := ft hR e17
  replace e18 := ft hR e18
  replace e19 := ft hR e19
  obtain ⟨v32_21, ev⟩ : ∃ v, sl a21 32 = v := ⟨_, rfl⟩
  rw [ev] at e32
  obtain ⟨hd32_21, A_32_21, hf32_21⟩ := e32
  have e32 := ev; clear ev
  obtain ⟨v32_21a, v32_21n, v32_21c, ev⟩ := arr_sl A_32_21; subst ev
  replace A_32_21 := arrF_new (M' := (b5_16 :: (blks hd32_21 ++ (b3_4 :: (b2_2 :: []))))) A_32_21 (rep_cons (rep_app (rep_q fun _ h => h) (rep_cons (rep_cons rep_nil))))
  replace A_32_21 : Arr W21 w.heap.size 33 5 (SF w (b5_16 :: (blks hd32_21 ++ (b3_4 :: (b2_2 :: []))))) (List.map V.d ((x.xs.take k) ++ [(x.xs[k]'hlt)])) (.slice v32_21a v32_21n v32_21c) hd32_21 := by first | exact A_32_21 | (rw [List.map_append]; exact A_32_21)
  have nb_b2_2_21 : b2_2 ∉ blks hd32_21 := nb_new nb_b2_2_ar9_10 own_b2_2.lt hf32_21
  have nb_b3_4_21 : b3_4 ∉ blks hd32_21 := nb_new nb_b3_4_ar9_10 own_b3_4.lt hf32_21
  have nb_b5_16_21 : b5_16 ∉ blks hd32_21 := nb_new nb_b5_16_ar9 own_b5_16.lt hf32_21
  replace D_ci0 := sa_app (M' := (b5_16 :: (blks hd32_21 ++ (b3_4 :: (b2_2 :: []))))) D_ci0 hk (fun b hb => List.mem_cons_of_mem _ (List.mem_append_left _ hb)) (rep_cons (rep_app hf32_21 (rep_cons (rep_cons rep_nil))))
  replace D_v15_4 := sf_app (M' := (b5_16 :: (blks hd32_21 ++ (b3_4 :: (b2_2 :: []))))) D_v15_4 hk (fun b hb => List.mem_cons_of_mem _ (List.mem_append_left _ hb)) (rep_cons (rep_app hf32_21 (rep_cons (rep_cons rep_nil))))
  replace D_cn22_16 := sa_app (M' := (b5_16 :: (blks hd32_21 ++ (b3_4 :: (b2_2 :: []))))) D_cn22_16 hk (fun b hb => List.mem_cons_of_mem _ (List.mem_append_left _ hb)) (rep_cons (rep_app hf32_21 (rep_cons (rep_cons rep_nil))))
  replace D_ci22_16 := sa_app (M' := (b5_16 :: (blks hd32_21 ++ (b3_4 :: (b2_2 :: []))))) D_ci22_16 hk (fun b hb => List.mem_cons_of_mem _ (List.mem_append_left _ hb)) (rep_cons (rep_app hf32_21 (rep_cons (rep_cons rep_nil))))
  replace own_b2_2 := own_app own_b2_2 hk nb_b2_2_ar9_10
  replace own_b3_4 := own_app own_b3_4 hk nb_b3_4_ar9_10
  replace own_b5_16 := own_app own_b5_16 hk nb_b5_16_ar9
  replace kw := keeps_app kw hk A4_10.ge
  have e33 : sl a21 33 = (.pointer (some ⟨b3_4, 4, none⟩)) := e33
  clear hR hk hg hP hf32_21 A4_10
  refine tail_store e33 e32 sz31 rfl own_b3_4 (lbr rfl) (all_cons rfl all_nil) (fun W22 hs own_b3_4 => ?_)
  have own_b3_4 : Own W22 b3_4 [(.int .u8 (x.k)), (.int .i64 (x.n)), (.string (x.t)), (.slice v15_4a (x.ns.length) v15_4c), (.slice v32_21a v32_21n v32_21c)] 33 := own_b3_4
  replace own_b2_2 := own_store own_b2_2 hs ne_b2_2_b3_4
  replace own_b5_16 := own_store own_b5_16 hs ne_b3_4_b5_16.symm
  replace D_ci0 := sa_store D_ci0 hs (by simp)
  replace D_v15_4 := sf_store D_v15_4 hs (by simp)
  replace D_cn22_16 := sa_store D_cn22_16 hs (by simp)
  replace D_ci22_16 := sa_store D_ci22_16 hs (by simp)
  replace A_32_21 := arrF_store A_32_21 hs (by simp) nb_b3_4_21
  replace kw := keeps_store kw hs lo_b3_4
  clear hs
  refine zn (hK14 _ _ ?_)
  refine rg mixed y21 zz21 ?_
  refine .i (sp_add (hbs rfl e19) Has.cst (i64_in (by omega))) ?_
  refine .i (sp_move (hlc rfl)) ?_
  refine .dn fun a23 g W23 y23 zz23 hk hg hV hR hP => ?_
  obtain ⟨e19, -, -⟩ := hV
  replace e2 := ft hR e2
  replace e3 := ft hR e3
  replace e17 := ft hR e17
  replace e18 := ft hR e18
  replace A_32_21 := A_32_21.ext hk
  replace D_ci0 := D_ci0.ext hk
  replace D_v15_4 := D_v15_4.ext hk
  replace e19 := e19.q
  replace own_b2_2 := own_b2_2.ext hk
  replace own_b3_4 := own_b3_4.ext hk
  replace own_b5_16 := own_b5_16.ext hk
  replace kw := kw.x hk
  clear hR hk hg hP
  rw [show (x.xs.take k) ++ [(x.xs[k]'hlt)] = x.xs.take (k + 1) by rw [List.take_succ_eq_append_getElem hlt]] at A_32_21
  exact tail_nil ⟨hlt, (.slice v32_21a v32_21n v32_21c), hd32_21, y23, zz23, kw, e2, e3, e17, e18, (e19.trans (congrArg (Value.int .i64) (by simp))), own_b2_2, own_b3_4, (sa_less D_ci0 (ls_skip (ls_keepA (ls_keep (ls_keep ls_nil))))), (sf_less D_v15_4 (ls_skip (ls_keepA (ls_keep (ls_keep ls_nil))))), (arrF_less A_32_21 (ls_skip (ls_keepA (ls_keep (ls_keep ls_nil))))), nb_b2_2_21, nb_b3_4_21⟩
 have hge0 : ¬ k < x.xs.length := by simpa using hc
 have hge : k = x.xs.length := by omega
 rw [show x.xs.take k = x.xs by rw [hge, List.take_length]] at A4_10
 have D_va4_10 : Rd W12 (SF w [b3_4, b2_2]) (valsD (x.xs)) va4_10 := arrF_rd A4_10 (ls_skipA (ls_keep (ls_keep ls_nil))) (nin_cons nb_b3_4_ar9_10 (nin_cons nb_b2_2_ar9_10 nin_nil))
 obtain ⟨va4_10a, va4_10c, ev, D2⟩ := rdVs_out D_va4_10
 subst ev; replace D_va4_10 := D2; clear D2
 replace D_ci0 := sa_less (M' := [b3_4, b2_2]) D_ci0 (ls_skipA (ls_keep (ls_keep ls_nil)))
 replace D_v15_4 := sf_less (M' := [b3_4, b2_2]) D_v15_4 (ls_skipA (ls_keep (ls_keep ls_nil)))
 refine wp_exit (hK6 _ _ ?_)
 refine zq fun K24 hK24 => ?_
 refine rg mixed y12 zz12 ?_
 refine .i (v := (.agg #[(.int .u8 (x.k)), (.int .i64 (x.n)), (.string (x.t)), (.slice v15_4a (x.ns.length) v15_4c), (.slice va4_10a (x.xs.length) va4_10c)])) (loA (hbs rfl e3) own_b3_4 trivial agg33 sz33 rfl rfl) ?_
 refine .dn fun a25 g W25 y25 zz25 hk hg hV hR hP => ?_
 obtain ⟨e35, -⟩ := hV
 replace e2 := ft hR e2
 replace D_ci0 := D_ci0.ext hk
 replace D_v15_4 := D_v15_4.ext hk
 replace D_va4_10 := D_va4_10.ext hk
 replace e35 := e35.q
 replace own_b2_2 := own_b2_2.ext hk
 replace own_b3_4 := own_b3_4.ext hk
 replace kw := kw.x hk
 clear hR hk hg hP
 refine tail_store e2 e35 sz33 rfl own_b2_2 (lbr rfl) (all_cons rfl (all_cons rfl (all_cons rfl (all_cons rfl (all_cons rfl all_nil))))) (fun W26 hs own_b2_2 => ?_)
 have own_b2_2 : Own W26 b2_2 [(.int .u8 (x.k)), (.int .i64 (x.n)), (.string (x.t)), (.slice v15_4a (x.ns.length) v15_4c), (.slice va4_10a (x.xs.length) va4_10c)] 33 := own_b2_2
 replace own_b3_4 := own_store own_b3_4 hs ne_b2_2_b3_4.symm
 replace D_ci0 := sa_store D_ci0 hs (by simp)
 replace D_v15_4 := sf_store D_v15_4 hs (by simp)
 replace D_va4_10 := sf_store D_va4_10 hs (by simp)
 replace kw := keeps_store kw hs lo_b2_2
 clear hs
 refine zn (hK24 _ _ ?_)
 refine wp_ret ?_
 refine retC (v := (.agg #[(.int .u8 (x.k)), (.int .i64 (x.n)), (.string (x.t)), (.slice v15_4a (x.ns.length) v15_4c), (.slice va4_10a (x.xs.length) va4_10c)])) rfl zz25 e2 own_b2_2 agg33 sz33 rfl (fun h => by cases h) rfl ⟨_, rfl, kw, ?_⟩
 exact sf_fr (rdV_in (x := x) ht0 D_v15_4 D_va4_10 : Rd W26 (SF w [b3_4, b2_2]) (V.d (x)) _)
end Go.Proofs.Ytnobijngkpflcaa
namespace Go.Eng
theorem sLt_iff (a b : ByteArray) : sLt a b = true ↔ a.toList < b.toList := by unfold sLt; rw [Go.Proofs.bytesLess_eq]; simp
theorem sLt_trans {a b c : ByteArray} (h1 : sLt a b = true) (h2 : sLt b c = true) : sLt a c = true := by
  rw [sLt_iff] at *; exact List.lt_trans h1 h2
theorem sLt_irrefl (a : ByteArray) : sLt a a = false := by
  cases h : sLt a a with
  | false => rfl
  | true => rw [sLt_iff] at h; exact absurd h (List.lt_irrefl _)
theorem asc_lt {ns : List ByteArray} (h : asc ns = true) : ∀ (j i : Nat) (hj : j < ns.length) (hi : i < j), sLt (ns[i]'(by omega)) ns[j] = true := by
  have ha := (asc_iff ns).1 h
  intro j
  induction j with
  | zero => intro i _ hi; omega
  | succ j ih =>
    intro i hj hi
    rcases Nat.lt_succ_iff_lt_or_eq.1 hi with h1 | h1
    · exact sLt_trans (ih i (by omega) h1) (ha j hj)
    · subst h1; exact ha i hj
def lb (ns : List ByteArray) (name : ByteArray) : Nat := (ns.takeWhile fun n => sLt n name).length
theorem lb_le (ns : List ByteArray) (name : ByteArray) : lb ns name ≤ ns.length := by unfold lb; exact (List.takeWhile_sublist _).length_le
theorem take_len {α : Type} (f : α → Bool) : ∀ (l : List α) (m : Nat), m ≤ l.length → (∀ i (h : i < l.length), i < m → f l[i] = true) → (∀ h : m < l.length, f l[m] = false) → (l.takeWhile f).length = m
  | [], m, hm, _, _ => by simp at hm; simp [hm]
  | x :: l, 0, _, _, h2 => by
    have := h2 (by simp)
    simp at this
    simp [List.takeWhile_cons, this]
  | x :: l, m + 1, hm, h1, h2 => by
    have h0 := h1 0 (by simp) (by omega)
    simp at h0
    simp only [List.takeWhile_cons, h0, if_true, List.length_cons]
    rw [take_len f l m (by simpa using hm) (fun i h hi => h1 (i + 1) (by simpa using h) (by omega)) (fun h => h2 (by simpa using h))]
theorem lb_of {ns : List ByteArray} {name : ByteArray} (ha : asc ns = true) {m : Nat} {p : Nat → Bool} (hp : ∀ i (h : i < ns.length), p i = !sLt ns[i] name) (hm : m ≤ ns.length) (h1 : m = 0 ∨ p (m - 1) = false) (h2 : m = ns.length ∨ p m = true) : lb ns name = m := by
  refine take_len _ ns m hm (fun i hi him => ?_) (fun h => ?_)
  · rcases h1 with h1 | h1
    · omega
    · have h3 : sLt ns[m - 1] name = true := by
        have := hp (m - 1) (by omega); rw [h1] at this; simpa using this.symm
      rcases Nat.lt_or_ge i (m - 1) with h4 | h4
      · exact sLt_trans (asc_lt ha (m - 1) i (by omega) h4) h3
      · have : i = m - 1 := by omega
        subst this; exact h3
  · rcases h2 with h2 | h2
    · omega
    · have := hp m h; rw [h2] at this; simpa using this.symm
def idx (name : ByteArray) : List ByteArray → Nat → Int
  | [], _ => -1
  | n :: ns, i => if name = n then i else idx name ns (i + 1)
def findI (ns : List ByteArray) (name : ByteArray) : Int := if asc ns then lb ns name else idx name ns 0
def findB (ns : List ByteArray) (name : ByteArray) : Bool := if asc ns then decide (ns[lb ns name]? = some name) else decide (0 ≤ idx name ns 0)
theorem find_fin (ns : List ByteArray) (name : ByteArray) (m : Nat) : (decide (((m : Nat) : Int) < (ns.length : Int)) && decide (ns.getD m ⟨#[]⟩ = name)) = decide (ns[m]? = some name) := by
  by_cases h : m < ns.length
  · have h' : ((m : Nat) : Int) < (ns.length : Int) := by omega
    simp [h', List.getD_eq_getElem?_getD, h]
  · have h' : ¬ ((m : Nat) : Int) < (ns.length : Int) := by omega
    simp only [h', decide_false, Bool.false_and]
    rw [List.getElem?_eq_none (by omega)]; simp
section
variable {P : Program} {ops : Array Oper} {S : Nat → Prop} {w0 : World} {a0 : Act} {Γ : Ctx}
variable {d : Option Tmp} {ty : TypeId} {pos : String} {af : Array Edge} {gd : Option (Nat × Bool)}
theorem sp_indexSD {x y : Operand} {T E : TypeId} {S' : BSet} {ns : List ByteArray} {i : Nat} {j : Int} (hx : Has S w0 a0 Γ x (IsD S' (strsD ns))) (hy : Has S w0 a0 Γ y (Is (.int .i64 j))) (hT : P.underlying T = some (.slice E)) (hz : szOf P E = some 1)
    (hj : j = i) (hi : i < ns.length) : Spec P ops S w0 a0 Γ ⟨d, .indexAddr T x y, ty, pos, af, gd⟩ (IsR S' (.str (ns.getD i ⟨#[]⟩))) := by
  have := sp_indexS (ty := ty) (pos := pos) (af := af) (gd := gd) (d := d) (ops := ops) hx hy hT hz hj hi
  rw [List.getD_eq_getElem?_getD, List.getElem?_eq_getElem hi]; exact this
end
def V.zero : V := .mk 0 0 ⟨#[]⟩ [] []
end Go.Eng
namespace Go.Proofs.Ytnobijngkpflcaa
open Go.Eng
set_option maxRecDepth 100000 in
theorem search_ok (n : Nat) (hn : n ≤ 1073741824) (fi : FuncId) (cb : Array Value) (p : Nat → Bool) (w : World) (ef : Enters Try.prog fi) (hf : ∀ W, Ext w W → ∀ i, i < n → Calls Try.prog fi (#[.int .i64 i] ++ cb) W (Ret W fun u _ => u = .bool (p i))) :
   Calls Try.prog 165 #[.int .i64 n, .func (.func fi) #[] cb] w (Ret w fun u _ => ∃ m : Nat, u = .int .i64 m ∧ m ≤ n ∧ (m = 0 ∨ p (m - 1) = false) ∧ (m = n ∨ p m = true)) := by
 refine enter Try.func165 rfl Try.ntmps165 (lbr rfl) fun a0 y0 zz0 harg => ?_
 have e0 : sl a0 0 = (.int .i64 ((n : Nat))) := harg 0 (lbr rfl)
 have e1 : sl a0 1 = (.func (.func fi) #[] cb) := harg 1 (lbr rfl)
 have kw := Keeps.refl All w
 clear harg
 refine zq fun K1 hK1 => ?_
 refine rg mixed y0 zz0 ?_
 refine .ac ?_
 refine .dn fun a2 g W2 y2 zz2 hk hg hV hR hP => ?_
 obtain ⟨-, -⟩ := hV
 replace e0 := ft hR e0
 replace e1 := ft hR e1
 replace kw := kw.x hk
 clear hR hk hg hP
 refine zn (hK1 _ _ ?_)
 refine zq fun K3 hK3 => ?_
 refine rg mixed y2 zz2 ?_
 refine .mb rfl e0 ?_
 refine .ac ?_
 refine .al rfl ?_
 refine .dn fun a4 g W4 y4 zz4 hk hg hV hR hP => ?_
 obtain ⟨e6, e5, -, -⟩ := hV
 replace e1 := ft hR e1
 replace e5 := e5.q
 replace e6 := e6.q
 replace kw := kw.x hk
 clear hR hk hg hP
 refine zn (hK3 _ _ ?_)
 refine zq fun K5 hK5 => ?_
 refine wp_block ?_
 refine wp_for (n) (fun k a W => ∃ (lo : Nat), ∃ (hi : Nat), a.tmps.size = 26 ∧ a.defers = [] ∧ Keeps All w W ∧ sl a 1 = (.func (.func fi) #[] cb) ∧ sl a 5 = (.int .i64 ((lo : Nat))) ∧ sl a 6 = (.int .i64 ((hi : Nat))) ∧ (lo ≤ hi ∧ hi ≤ n ∧ k + (hi - lo) ≤ n) ∧ ((lo = 0 ∨ p (lo - 1) = false)) ∧ ((hi = n ∨ p hi = true))) ⟨0, n, y4, zz4, kw, e1, (e5.trans (congrArg (Value.int .i64) (rfl))), (e6.trans (congrArg (Value.int .i64) (rfl))), by omega, .inl rfl, .inl rfl⟩ ?_
 clear kw e1 e5 e6
 rintro k a6 W6 hkk ⟨lo, hi, y6, zz6, kw, e1, e5, e6, hlh, hp1, hp2⟩
 refine zq fun K7 hK7 => ?_
 refine zq fun K8 hK8 => ?_
 refine rg mixed y6 zz6 ?_
 refine .mb rfl e5 ?_
 refine .mb rfl e6 ?_
 refine .i (sp_lss (hlc rfl) (hlc rfl)) ?_
 refine .dn fun a9 g W9 y9 zz9 hk hg hV hR hP => ?_
 obtain ⟨e11, -, -, -⟩ := hV
 replace e1 := ft hR e1
 replace e5 := ft hR e5
 replace e6 := ft hR e6
 replace e11 := e11.q
 replace kw := kw.x hk
 clear hR hk hg hP
 refine zn (hK8 _ _ ?_)
 refine zc e11 (fun hc => ?_) (fun hc => ?_)
 ·
  have hlt : lo < hi := by have := of_decide_eq_true hc; omega
  refine wp_skip (hK7 _ _ ?_)
  refine wp_block ?_
  refine zq fun K10 hK10 => ?_
  refine rg mixed y9 zz9 ?_
  refine .mb rfl e5 ?_
  refine .mb rfl e6 ?_
  refine .i (sp_add (hlc rfl) (hlc rfl) (i64_in (by omega))) ?_
  refine .i (v := (.int .u64 (((lo : Nat) : Int) + ((hi : Nat) : Int)))) (sp_conv Try.underlying3 Try.underlying175 (hlc rfl) (u64_in (by omega))) ?_
  refine .i (v := (.int .u64 ((((lo : Nat) : Int) + ((hi : Nat) : Int) : Int) / 2))) (sp_shr1 (hlc rfl)) ?_
  refine .i (v := (.int .i64 ((((lo : Nat) : Int) + ((hi : Nat) : Int) : Int) / 2))) (sp_conv Try.underlying175 Try.underlying3 (hlc rfl) (i64_in (by omega))) ?_
  refine .al rfl ?_
  refine .dn fun a11 g W11 y11 zz11 hk hg hV hR hP => ?_
  obtain ⟨e7, -, -, -, -, -, -, -⟩ := hV
  replace e1 := ft hR e1
  replace e5 := ft hR e5
  replace e6 := ft hR e6
  replace e7 := e7.q
  replace kw := kw.x hk
  clear hR hk hg hP
  refine zn (hK10 _ _ ?_)
  refine zq fun K12 hK12 => ?_
  refine rg mixed y11 zz11 ?_
  refine .mb rfl e1 ?_
  refine .mb rfl e7 ?_
  refine .i (v := (.bool (p ((lo + hi) / 2)))) (sp_callF1 ef (hlc rfl) (hlc rfl) (fun g W hk hgk => by rw [show ((((lo : Nat) : Int) + ((hi : Nat) : Int) : Int) / 2 : Int) = (((lo + hi) / 2 : Nat) : Int) by omega]; exact hf W (kw.trans hk) _ (by omega))) ?_
  refine .i (sp_not (hlc rfl)) ?_
  refine .dn fun a13 g W13 y13 zz13 hk hg hV hR hP => ?_
  obtain ⟨e21, -, -, -, -⟩ := hV
  replace e1 := ft hR e1
  replace e5 := ft hR e5
  replace e6 := ft hR e6
  replace e7 := ft hR e7
  replace e21 := e21.q
  replace kw := kw.x hk
  clear hR hk hg hP
  refine zn (hK12 _ _ ?_)
  refine zc e21 (fun hc => ?_) (fun hc => ?_)
  ·
   have hpm : p ((lo + hi) / 2) = false := by simpa using hc
   refine rg mixed y13 zz13 ?_
   refine .mb rfl e7 ?_
   refine .i (sp_add (hlc rfl) Has.cst (i64_in (by omega))) ?_
   refine .al rfl ?_
   refine .dn fun a14 g W14 y14 zz14 hk hg hV hR hP => ?_
   obtain ⟨e5, -, -, -⟩ := hV
   replace e1 := ft hR e1
   replace e6 := ft hR e6
   replace e5 := e5.q
   replace kw := kw.x hk
   clear hR hk hg hP
   exact tail_nil ⟨by omega, ((lo + hi) / 2 + 1), hi, y14, zz14, kw, e1, (e5.trans (congrArg (Value.int .i64) (by omega))), (e6.trans (congrArg (Value.int .i64) (by omega))), by omega, (by first | exact hp1 | exact .inr hpm), (by first | exact hp2 | exact .inr hpm)⟩
  have hpm : p ((lo + hi) / 2) = true := by simpa using hc
  refine rg mixed y13 zz13 ?_
  refine .mb rfl e7 ?_
  refine .al rfl ?_
  refine .dn fun a15 g W15 y15 zz15 hk hg hV hR hP => ?_
  obtain ⟨e6, -, -⟩ := hV
  replace e1 := ft hR e1
  replace e5 := ft hR e5
  replace e6 := e6.q
  replace kw := kw.x hk
  clear hR hk hg hP
  exact tail_nil ⟨by omega, lo, ((lo + hi) / 2), y15, zz15, kw, e1, (e5.trans (congrArg (Value.int .i64) (by omega))), (e6.trans (congrArg (Value.int .i64) (by omega))), by omega, (by first | exact hp1 | exact .inr hpm), (by first | exact hp2 | exact .inr hpm)⟩
 have hge : lo = hi := by have := of_decide_eq_false hc; omega
 subst hge
 refine wp_exit (hK5 _ _ ?_)
 refine zq fun K16 hK16 => ?_
 refine rg mixed y9 zz9 ?_
 refine .mb rfl e5 ?_
 refine .al rfl ?_
 refine .dn fun a17 g W17 y17 zz17 hk hg hV hR hP => ?_
 obtain ⟨e4, -, -⟩ := hV
 replace e4 := e4.q
 replace kw := kw.x hk
 clear hR hk hg hP
 refine zn (hK16 _ _ ?_)
 refine wp_ret ?_
 refine ret1 rfl zz17 e4 ⟨_, rfl, kw, ?_⟩
 exact ⟨_, rfl, hlh.2.1, hp1, hp2⟩
set_option maxRecDepth 100000 in
theorem index_ok (ns : List ByteArray) (name : ByteArray) (w : World) (S : BSet) (v : Value) (hv : Rd w S (strsD ns) v) : Calls Try.prog 139 #[v, .string name] w (Ret w fun u _ => u = .int .i64 (idx name ns 0)) := by
 have hmn : ns.length ≤ maxLen := rd_lenS hv
 simp only [maxLen] at hmn
 obtain ⟨va, vc, ev, D_v⟩ := rdS_out (rd_arg hv)
 subst ev
 refine enter Try.func139 rfl Try.ntmps139 (lbr rfl) fun a0 y0 zz0 harg => ?_
 have e0 : sl a0 0 = (.slice va (ns.length) vc) := harg 0 (lbr rfl)
 have e1 : sl a0 1 = (.string (name)) := harg 1 (lbr rfl)
 have kw := Keeps.refl All w
 clear harg
 refine zq fun K1 hK1 => ?_
 refine rg mixed y0 zz0 ?_
 refine .ac ?_
 refine .dn fun a2 g W2 y2 zz2 hk hg hV hR hP => ?_
 obtain ⟨-, -⟩ := hV
 replace e0 := ft hR e0
 replace e1 := ft hR e1
 replace D_v := D_v.ext hk
 replace kw := kw.x hk
 clear hR hk hg hP
 refine zn (hK1 _ _ ?_)
 refine zq fun K3 hK3 => ?_
 refine zq fun K4 hK4 => ?_
 refine rg mixed y2 zz2 ?_
 refine .mb rfl e0 ?_
 refine .i (sp_lenSs Try.underlying23 ((hlc rfl).dat D_v sub_all)) ?_
 refine .i (sp_move Has.cst) ?_
 refine .dn fun a5 g W5 y5 zz5 hk hg hV hR hP => ?_
 obtain ⟨e8, e7, -, -⟩ := hV
 replace e0 := ft hR e0
 replace e1 := ft hR e1
 replace D_v := D_v.ext hk
 replace e7 := e7.q
 replace e8 := e8.q
 replace kw := kw.x hk
 clear hR hk hg hP
 refine zn (hK4 _ _ ?_)
 refine wp_block ?_
 refine wp_for (ns.length) (fun k a W => a.tmps.size = 19 ∧ a.defers = [] ∧ Keeps All w W ∧ sl a 0 = (.slice va (ns.length) vc) ∧ sl a 1 = (.string (name)) ∧ sl a 7 = (.int .i64 (ns.length)) ∧ sl a 8 = (.int .i64 ((k : Nat))) ∧ Rd W (SA w S []) (strsD (ns)) (.slice va (ns.length) vc) ∧ (idx name ns 0 = idx name (ns.drop k) k)) ⟨y5, zz5, kw, e0, e1, e7, (e8.trans (congrArg (Value.int .i64) (rfl))), D_v, rfl⟩ ?_
 clear kw e0 e1 e7 e8 D_v
 rintro k a6 W6 hkk ⟨y6, zz6, kw, e0, e1, e7, e8, D_v, hin⟩
 refine zq fun K7 hK7 => ?_
 refine rg mixed y6 zz6 ?_
 refine .i (sp_lss (hbs rfl e8) (hbs rfl e7)) ?_
 refine .dn fun a8 g W8 y8 zz8 hk hg hV hR hP => ?_
 obtain ⟨e9, -⟩ := hV
 replace e0 := ft hR e0
 replace e1 := ft hR e1
 replace e7 := ft hR e7
 replace e8 := ft hR e8
 replace D_v := D_v.ext hk
 replace e9 := e9.q
 replace kw := kw.x hk
 clear hR hk hg hP
 refine zn (hK7 _ _ ?_)
 refine zq fun K9 hK9 => ?_
 refine zc e9 (fun hc => ?_) (fun hc => ?_)
 ·
  have hlt : k < ns.length := by simpa using hc
  rw [List.drop_eq_getElem_cons hlt, idx] at hin
  refine wp_skip (hK9 _ _ ?_)
  refine zq fun K10 hK10 => ?_
  refine wp_block ?_
  refine zq fun K11 hK11 => ?_
  refine rg mixed y8 zz8 ?_
  refine .mb rfl e8 ?_
  refine .al rfl ?_
  refine .dn fun a12 g W12 y12 zz12 hk hg hV hR hP => ?_
  obtain ⟨e5, -, -⟩ := hV
  replace e0 := ft hR e0
  replace e1 := ft hR e1
  replace e7 := ft hR e7
  replace e8 := ft hR e8
  replace D_v := D_v.ext hk
  replace e5 := e5.q
  replace kw := kw.x hk
  clear hR hk hg hP
  refine zn (hK11 _ _ ?_)
  refine zq fun K13 hK13 => ?_
  refine rg mixed y12 zz12 ?_
  refine .mb rfl e1 ?_
  refine .mb rfl e0 ?_
  refine .mb rfl e5 ?_
  refine .rf (sp_indexS (i := k) ((hlc rfl).dat D_v sub_all) (hlc rfl) Try.underlying23 sz9 rfl hlt) ?_
  refine .i (sp_loadStr (hlc rfl) agg9 sz9) ?_
  refine .i (sp_sEql (hlc rfl) (hlc rfl)) ?_
  refine .dn fun a14 g W14 y14 zz14 hk hg hV hR hP => ?_
  obtain ⟨e16, -, -, -, -, -, -⟩ := hV
  replace e0 := ft hR e0
  replace e1 := ft hR e1
  replace e7 := ft hR e7
  replace e8 := ft hR e8
  replace e5 := ft hR e5
  replace D_v := D_v.ext hk
  replace e16 := e16.q
  replace kw := kw.x hk
  clear hR hk hg hP
  refine zn (hK13 _ _ ?_)
  refine zc e16 (fun hc => ?_) (fun hc => ?_)
  ·
   have hfin : idx name ns 0 = (k : Nat) := by rw [hin, if_pos (by simpa using hc)]
   refine zq fun K15 hK15 => ?_
   refine rg mixed y14 zz14 ?_
   refine .mb rfl e5 ?_
   refine .al rfl ?_
   refine .dn fun a16 g W16 y16 zz16 hk hg hV hR hP => ?_
   obtain ⟨e4, -, -⟩ := hV
   replace D_v := D_v.ext hk
   replace e4 := e4.q
   replace kw := kw.x hk
   clear hR hk hg hP
   refine zn (hK15 _ _ ?_)
   refine wp_ret ?_
   refine ret1 rfl zz16 e4 ⟨_, rfl, kw, ?_⟩
   rw [hfin]; try rfl
  rw [if_neg (by simpa using hc)] at hin
  refine wp_skip (hK10 _ _ ?_)
  refine rg mixed y14 zz14 ?_
  refine .i (sp_add (hbs rfl e8) Has.cst (i64_in (by omega))) ?_
  refine .i (sp_move (hlc rfl)) ?_
  refine .dn fun a17 g W17 y17 zz17 hk hg hV hR hP => ?_
  obtain ⟨e8, -, -⟩ := hV
  replace e0 := ft hR e0
  replace e1 := ft hR e1
  replace e7 := ft hR e7
  replace D_v := D_v.ext hk
  replace e8 := e8.q
  replace kw := kw.x hk
  clear hR hk hg hP
  exact tail_nil ⟨hlt, y17, zz17, kw, e0, e1, e7, (e8.trans (congrArg (Value.int .i64) (by simp))), D_v, hin⟩
 have hge0 : ¬ k < ns.length := by simpa using hc
 have hge : k = ns.length := by omega
 rw [hge, List.drop_length] at hin
 have hfin : idx name ns 0 = -1 := hin
 refine wp_exit (hK3 _ _ ?_)
 refine zq fun K18 hK18 => ?_
 refine rg mixed y8 zz8 ?_
 refine .ac ?_
 refine .dn fun a19 g W19 y19 zz19 hk hg hV hR hP => ?_
 obtain ⟨e4, -⟩ := hV
 replace D_v := D_v.ext hk
 replace e4 := e4.q
 replace kw := kw.x hk
 clear hR hk hg hP
 refine zn (hK18 _ _ ?_)
 refine wp_ret ?_
 refine ret1 rfl zz19 e4 ⟨_, rfl, kw, ?_⟩
 rw [hfin]; try rfl
set_option maxRecDepth 100000 in
theorem find1_ok (ns : List ByteArray) (name : ByteArray) (i : Nat) (hi : i < ns.length) (w : World) (S : BSet) (v : Value) (bn bs : Nat) (hv : Rd w S (strsD ns) v) (own_bn : Own w bn [v] 23) (own_bs : Own w bs [.string name] 9) : Calls Try.prog 166 #[.int .i64 i, .pointer (some ⟨bn, 0, none⟩), .pointer (some ⟨bs, 0, none⟩)] w (Ret w fun u _ => u = .bool (!sLt ns[i] name)) := by
 obtain ⟨va, vc, ev, D_v⟩ := rdS_out (rd_arg hv)
 subst ev
 refine enter Try.func166 rfl Try.ntmps166 (lbr rfl) fun a0 y0 zz0 harg => ?_
 have e0 : sl a0 0 = (.int .i64 ((i : Nat))) := harg 0 (lbr rfl)
 have e1 : sl a0 1 = (.pointer (some ⟨bn, 0, none⟩)) := harg 1 (lbr rfl)
 have e2 : sl a0 2 = (.pointer (some ⟨bs, 0, none⟩)) := harg 2 (lbr rfl)
 have kw := Keeps.refl All w
 clear harg
 refine zq fun K1 hK1 => ?_
 refine rg mixed y0 zz0 ?_
 refine .ac ?_
 refine .dn fun a2 g W2 y2 zz2 hk hg hV hR hP => ?_
 obtain ⟨-, -⟩ := hV
 replace e0 := ft hR e0
 replace e1 := ft hR e1
 replace e2 := ft hR e2
 replace D_v := D_v.ext hk
 replace own_bn := own_bn.ext hk
 replace own_bs := own_bs.ext hk
 replace kw := kw.x hk
 clear hR hk hg hP
 refine zn (hK1 _ _ ?_)
 refine zq fun K3 hK3 => ?_
 refine rg mixed y2 zz2 ?_
 refine .i (lo1 (hbs rfl e1) own_bn trivial agg23 sz23 rfl) ?_
 refine .mb rfl e0 ?_
 refine .rf (sp_indexS (i := i) ((hlc rfl).dat D_v sub_all) (hlc rfl) Try.underlying23 sz9 rfl hi) ?_
 refine .i (sp_loadStr (hlc rfl) agg9 sz9) ?_
 refine .i (lo1 (hbs rfl e2) own_bs trivial agg9 sz9 rfl) ?_
 refine .i (sp_sGeq (hlc rfl) (hlc rfl)) ?_
 refine .al rfl ?_
 refine .dn fun a4 g W4 y4 zz4 hk hg hV hR hP => ?_
 obtain ⟨e4, -, -, -, -, -, -, -⟩ := hV
 replace D_v := D_v.ext hk
 replace e4 := e4.q
 replace own_bn := own_bn.ext hk
 replace own_bs := own_bs.ext hk
 replace kw := kw.x hk
 clear hR hk hg hP
 refine zn (hK3 _ _ ?_)
 refine wp_ret ?_
 refine ret1 rfl zz4 e4 ⟨_, rfl, kw, ?_⟩
 exact rfl
set_option maxRecDepth 100000 in
theorem find_ok (ns : List ByteArray) (name : ByteArray) (hn : ns.length ≤ 1073741824) (w : World) (S : BSet) (v : Value) (hv : Rd w S (strsD ns) v) : Calls Try.prog 145 #[v, .string name] w (Ret w fun u _ => u = .tuple #[.int .i64 (findI ns name), .bool (findB ns name)]) := by
 have hlb := lb_le ns name
 obtain ⟨va, vc, ev, D_v⟩ := rdS_out (rd_arg hv)
 subst ev
 refine enter Try.func145 rfl Try.ntmps145 (lbr rfl) fun a0 y0 zz0 harg => ?_
 have e0 : sl a0 0 = (.slice va (ns.length) vc) := harg 0 (lbr rfl)
 have e1 : sl a0 1 = (.string (name)) := harg 1 (lbr rfl)
 have kw := Keeps.refl All w
 clear harg
 refine zq fun K1 hK1 => ?_
 refine rg mixed y0 zz0 ?_
 refine .boxOp (v := (.slice va (ns.length) vc)) (hbs rfl e0) ?_
 refine .boxOp (v := (.string (name))) (hbs rfl e1) ?_
 refine .ac ?_
 refine .ac ?_
 refine .dn fun a2 g W2 y2 zz2 hk hg hV hR hP => ?_
 obtain ⟨-, -, ⟨b3_2, e3, hb3, own_b3_2⟩, ⟨b2_2, e2, hb2, own_b2_2⟩, -⟩ := hV
 have lo_b3_2 : w.heap.size ≤ b3_2 := Nat.le_trans kw.size (hg.lo _ _ hb3)
 have own_b3_2 : Own W2 b3_2 [(.string (name))] 9 := own_b3_2
 have lo_b2_2 : w.heap.size ≤ b2_2 := Nat.le_trans kw.size (hg.lo _ _ hb2)
 have own_b2_2 : Own W2 b2_2 [(.slice va (ns.length) vc)] 23 := own_b2_2
 have ne_b3_2_b2_2 : b3_2 ≠ b2_2 := fun h => by have := hg.inj _ _ _ hb3 (h ▸ hb2); cases this
 replace D_v := sa_more D_v hk [b3_2, b2_2] (in_cons (hg.lo _ _ hb3) (in_cons (hg.lo _ _ hb2) in_nil))
 replace kw := kw.x hk
 clear hR hk hg hP hb3 hb2
 refine zn (hK1 _ _ ?_)
 refine zq fun K3 hK3 => ?_
 refine zq fun K4 hK4 => ?_
 refine rg mixed y2 zz2 ?_
 refine .i (lo1 (hbs rfl e2) own_b2_2 trivial agg23 sz23 rfl) ?_
 refine .i (v := (.bool (asc ns))) (sp_call1 (φ1 := IsD (SA w S [b3_2, b2_2]) (strsD (ns))) ent164 ((hlc rfl).dat D_v sub_all) (fun g u1 W hk hgk h1 => ascending_ok (ns) W _ _ h1)) ?_
 refine .i (sp_not (hlc rfl)) ?_
 refine .dn fun a5 g W5 y5 zz5 hk hg hV hR hP => ?_
 obtain ⟨e10, -, -, -⟩ := hV
 replace e3 := ft hR e3
 replace e2 := ft hR e2
 replace D_v := D_v.ext hk
 replace e10 := e10.q
 replace own_b3_2 := own_b3_2.ext hk
 replace own_b2_2 := own_b2_2.ext hk
 replace kw := kw.x hk
 clear hR hk hg hP
 refine zn (hK4 _ _ ?_)
 refine zc e10 (fun hc => ?_) (fun hc => ?_)
 ·
  have hasc : asc ns = false := by simpa using hc
  refine zq fun K6 hK6 => ?_
  refine rg mixed y5 zz5 ?_
  refine .i (lo1 (hbs rfl e2) own_b2_2 trivial agg23 sz23 rfl) ?_
  refine .i (lo1 (hbs rfl e3) own_b3_2 trivial agg9 sz9 rfl) ?_
  refine .i (v := (.int .i64 (idx name ns 0))) (sp_call2 (φ1 := IsD (SA w S [b3_2, b2_2]) (strsD (ns))) (φ2 := Is (.string (name))) ent139 ((hlc rfl).dat D_v sub_all) (hlc rfl) (fun g u1 u2 W hk hgk h1 h2 => by have h2 : u2 = _ := h2; subst u2; exact index_ok (ns) (name) W _ _ h1)) ?_
  refine .al rfl ?_
  refine .dn fun a7 g W7 y7 zz7 hk hg hV hR hP => ?_
  obtain ⟨e6, -, -, -, -⟩ := hV
  replace D_v := D_v.ext hk
  replace e6 := e6.q
  replace own_b3_2 := own_b3_2.ext hk
  replace own_b2_2 := own_b2_2.ext hk
  replace kw := kw.x hk
  clear hR hk hg hP
  refine zn (hK6 _ _ ?_)
  refine zq fun K8 hK8 => ?_
  refine rg mixed y7 zz7 ?_
  refine .mb rfl e6 ?_
  refine .mb rfl e6 ?_
  refine .i (sp_geq (hlc rfl) Has.cst) ?_
  refine .al rfl ?_
  refine .al rfl ?_
  refine .dn fun a9 g W9 y9 zz9 hk hg hV hR hP => ?_
  obtain ⟨e5, e4, -, -, -, -⟩ := hV
  replace e4 := e4.q
  replace e5 := e5.q
  replace own_b3_2 := own_b3_2.ext hk
  replace own_b2_2 := own_b2_2.ext hk
  replace kw := kw.x hk
  clear hR hk hg hP
  refine zn (hK8 _ _ ?_)
  refine wp_ret ?_
  refine ret2 rfl zz9 e4 e5 ⟨_, rfl, kw, ?_⟩
  simp [findI, findB, hasc]
 have hasc : asc ns = true := by simpa using hc
 refine wp_skip (hK3 _ _ ?_)
 refine zq fun K10 hK10 => ?_
 refine rg mixed y5 zz5 ?_
 refine .i (lo1 (hbs rfl e2) own_b2_2 trivial agg23 sz23 rfl) ?_
 refine .i (sp_lenSs Try.underlying23 ((hlc rfl).dat D_v sub_all)) ?_
 refine .i (v := (.func (.func 166) #[] #[(.pointer (some ⟨b2_2, 0, none⟩)), (.pointer (some ⟨b3_2, 0, none⟩))])) (sp_mkF2 (hbs rfl e2) (hbs rfl e3)) ?_
 refine .i (v := (.int .i64 (((lb ns name : Nat) : Int)))) (sp_call2 (φ1 := Is (.int .i64 (ns.length))) (φ2 := Is (.func (.func 166) #[] #[(.pointer (some ⟨b2_2, 0, none⟩)), (.pointer (some ⟨b3_2, 0, none⟩))])) ent165 (hlc rfl) (hlc rfl) (fun g u1 u2 W hk hgk h1 h2 => by have h1 : u1 = _ := h1; subst u1; have h2 : u2 = _ := h2; subst u2; exact ((search_ok ns.length (by omega) _ _ (fun i => !sLt (ns.getD i ⟨#[]⟩) name) W ent166 fun W2 hk2 i hi => by have h := find1_ok ns name i hi W2 _ _ _ _ (D_v.ext (hk.trans hk2)) (own_b2_2.ext (hk.trans hk2)) (own_b3_2.ext (hk.trans hk2)); rw [List.getD_eq_getElem?_getD, List.getElem?_eq_getElem hi]; exact h)).mono (fun _ _ ⟨v, h1, h2, m, h3, h4, h5, h6⟩ => ⟨v, h1, h2, by rw [lb_of (p := fun i => !sLt (ns.getD i ⟨#[]⟩) name) hasc (fun i h => by simp [List.getD_eq_getElem?_getD, h]) h4 h5 h6]; exact h3⟩))) ?_
 refine .al rfl ?_
 refine .dn fun a11 g W11 y11 zz11 hk hg hV hR hP => ?_
 obtain ⟨e7, -, -, -, -, -⟩ := hV
 replace e3 := ft hR e3
 replace e2 := ft hR e2
 replace D_v := D_v.ext hk
 replace e7 := e7.q
 replace own_b3_2 := own_b3_2.ext hk
 replace own_b2_2 := own_b2_2.ext hk
 replace kw := kw.x hk
 clear hR hk hg hP
 refine zn (hK10 _ _ ?_)
 refine zq fun K12 hK12 => ?_
 refine rg mixed y11 zz11 ?_
 refine .mb rfl e7 ?_
 refine .mb rfl e7 ?_
 refine .i (lo1 (hbs rfl e2) own_b2_2 trivial agg23 sz23 rfl) ?_
 refine .i (sp_lenSs Try.underlying23 ((hlc rfl).dat D_v sub_all)) ?_
 refine .i (sp_lss (hlc rfl) (hlc rfl)) ?_
 refine .i (sp_move (hlc rfl)) ?_
 refine .e rfl (hlc rfl) (fun hg => lo1 (hbs rfl e2) own_b2_2 trivial agg23 sz23 rfl) ?_
 refine .em rfl (hlc rfl) rfl e7 ?_
 refine .opE (t := 26) (φ := IsR (SA w S [b3_2, b2_2]) (D.str (ns.getD (lb ns name) ⟨#[]⟩))) rfl (hlc rfl) (st_r sub_all) (fun hg => sp_indexSD (i := (lb ns name)) (((hlc rfl).undE hg).dat D_v sub_all) ((hlc rfl).undE hg) Try.underlying23 sz9 rfl (by have := of_decide_eq_true hg; omega)) ?_
 refine .e rfl (hlc rfl) (fun hg => sp_loadStr ((hlc rfl).undE hg) agg9 sz9) ?_
 refine .e rfl (hlc rfl) (fun hg => lo1 (hbs rfl e3) own_b3_2 trivial agg9 sz9 rfl) ?_
 refine .e rfl (hlc rfl) (fun hg => sp_sEql ((hlc rfl).undE hg) ((hlc rfl).undE hg)) ?_
 refine .i (sp_and (hlc rfl) ((hlc rfl).weak fun hq => hq)) ?_
 refine .al rfl ?_
 refine .al rfl ?_
 refine .dn fun a13 g W13 y13 zz13 hk hg hV hR hP => ?_
 obtain ⟨e5, e4, -, -, -, -, -, -, -, -, -, -, -, -, -, -⟩ := hV
 replace D_v := D_v.ext hk
 replace e4 := e4.q
 replace e5 := e5.q
 replace own_b3_2 := own_b3_2.ext hk
 replace own_b2_2 := own_b2_2.ext hk
 replace kw := kw.x hk
 clear hR hk hg hP
 refine zn (hK12 _ _ ?_)
 refine wp_ret ?_
 refine ret2 rfl zz13 e4 e5 ⟨_, rfl, kw, ?_⟩
 simp only [findI, findB, hasc, if_true]
 rw [find_fin]
end Go.Proofs.Ytnobijngkpflcaa
namespace Go.Eng
theorem idx_out (name : ByteArray) : ∀ (ns : List ByteArray) (i : Nat), (idx name ns i = -1 ∧ name ∉ ns) ∨ ∃ j, idx name ns i = ((i + j : Nat) : Int) ∧ ns[j]? = some name
  | [], i => .inl ⟨rfl, by simp⟩
  | n :: ns, i => by
    rw [idx]
    by_cases h : name = n
    · rw [if_pos h]; exact .inr ⟨0, by simp, by simp [h]⟩
    · rw [if_neg h]
      rcases idx_out name ns (i + 1) with ⟨h1, h2⟩ | ⟨j, h1, h2⟩
      · exact .inl ⟨h1, by simp [h, h2]⟩
      · exact .inr ⟨j + 1, by rw [h1]; congr 1; omega, by simpa using h2⟩
theorem find_at {ns : List ByteArray} {name : ByteArray} (h : findB ns name = true) : ∃ i : Nat, findI ns name = i ∧ ns[i]? = some name := by
  unfold findB at h
  unfold findI
  split at h
  · rename_i ha
    rw [if_pos ha]
    exact ⟨_, rfl, by simpa using h⟩
  · rename_i ha
    rw [if_neg ha]
    rcases idx_out name ns 0 with ⟨h1, _⟩ | ⟨j, h1, h2⟩
    · rw [h1] at h; simp at h
    · exact ⟨j, by rw [h1]; simp, h2⟩
def getV (x : V) (name : ByteArray) : V := if x.k ≠ 5 then V.zero else if findB x.ns name = false ∨ (x.xs.length : Int) ≤ findI x.ns name then V.zero else x.xs.getD (findI x.ns name).toNat V.zero
def getB (x : V) (name : ByteArray) : Bool := if x.k ≠ 5 then false else if findB x.ns name = false ∨ (x.xs.length : Int) ≤ findI x.ns name then false else true
theorem getV_in {x : V} {name : ByteArray} {i : Nat} (hk : ¬ x.k ≠ 5) (hn : ¬ (findB x.ns name = false ∨ (x.xs.length : Int) ≤ findI x.ns name)) (h : findI x.ns name = i) (hi : i < x.xs.length) : getV x name = x.xs[i] := by
  rw [getV, if_neg hk, if_neg hn, h]
  simp [List.getD_eq_getElem?_getD, hi]
end Go.Eng
namespace Go.Proofs.Ytnobijngkpflcaa
open Go.Eng
set_option maxRecDepth 100000 in
theorem Get_ok (x : V) (name : ByteArray) (hx : x.wt ≤ 1073741824) (w : World) (S : BSet) (v : Value) (hS : ∀ b o, S b o → Cln o) (hv : Rd w S x.d v) : Calls Try.prog 101 #[v, .string name] w (Ret w fun r W => ∃ r1, r = .tuple #[r1, .bool (getB x name)] ∧ Rd W (Fr w) (getV x name).d r1) := by
 have hwx := wt_eq x
 have hwl := wts_len x.xs
 have hwn := wtN_len x.ns
 obtain ⟨cn0a, cn0c, ci0a, ci0c, ev, ht0, D_cn0, D_ci0⟩ := rdV_out (rd_arg hv)
 subst ev
 refine enter Try.func101 rfl Try.ntmps101 (lbr rfl) fun a0 y0 zz0 harg => ?_
 have e0 : sl a0 0 = (.agg #[(.int .u8 (x.k)), (.int .i64 (x.n)), (.string (x.t)), (.slice cn0a (x.ns.length) cn0c), (.slice ci0a (x.xs.length) ci0c)]) := harg 0 (lbr rfl)
 have e1 : sl a0 1 = (.string (name)) := harg 1 (lbr rfl)
 have kw := Keeps.refl All w
 clear harg
 refine zq fun K1 hK1 => ?_
 refine rg mixed y0 zz0 ?_
 refine .boxOp (v := (.agg #[(.int .u8 (x.k)), (.int .i64 (x.n)), (.string (x.t)), (.slice cn0a (x.ns.length) cn0c), (.slice ci0a (x.xs.length) ci0c)])) (hbs rfl e0) ?_
 refine .alloc z33 ?_
 refine .ac ?_
 refine .dn fun a2 g W2 y2 zz2 hk hg hV hR hP => ?_
 obtain ⟨-, ⟨b4_2, e4, hb4, own_b4_2⟩, ⟨b2_2, e2, hb2, own_b2_2⟩, -⟩ := hV
 have lo_b4_2 : w.heap.size ≤ b4_2 := Nat.le_trans kw.size (hg.lo _ _ hb4)
 have own_b4_2 : Own W2 b4_2 z5C 33 := own_b4_2
 have lo_b2_2 : w.heap.size ≤ b2_2 := Nat.le_trans kw.size (hg.lo _ _ hb2)
 have own_b2_2 : Own W2 b2_2 [(.int .u8 (x.k)), (.int .i64 (x.n)), (.string (x.t)), (.slice cn0a (x.ns.length) cn0c), (.slice ci0a (x.xs.length) ci0c)] 33 := own_b2_2
 have ne_b4_2_b2_2 : b4_2 ≠ b2_2 := fun h => by have := hg.inj _ _ _ hb4 (h ▸ hb2); cases this
 replace e1 := ft hR e1
 replace D_cn0 := sa_more D_cn0 hk [b4_2, b2_2] (in_cons (hg.lo _ _ hb4) (in_cons (hg.lo _ _ hb2) in_nil))
 replace D_ci0 := sa_more D_ci0 hk [b4_2, b2_2] (in_cons (hg.lo _ _ hb4) (in_cons (hg.lo _ _ hb2) in_nil))
 replace kw := kw.x hk
 clear hR hk hg hP hb4 hb2
 refine zn (hK1 _ _ ?_)
 refine zq fun K3 hK3 => ?_
 refine zq fun K4 hK4 => ?_
 refine rg mixed y2 zz2 ?_
 refine .i (fo 0 (hbs rfl e2) Try.underlying33 rfl sz5 rfl) ?_
 refine .i (lo1 (hlc rfl) own_b2_2 trivial agg5 sz5 rfl) ?_
 refine .i (sp_neq (hlc rfl) Has.cst) ?_
 refine .dn fun a5 g W5 y5 zz5 hk hg hV hR hP => ?_
 obtain ⟨e10, -, -, -⟩ := hV
 replace e1 := ft hR e1
 replace e4 := ft hR e4
 replace e2 := ft hR e2
 replace D_cn0 := D_cn0.ext hk
 replace D_ci0 := D_ci0.ext hk
 replace e10 := e10.q
 replace own_b4_2 := own_b4_2.ext hk
 replace own_b2_2 := own_b2_2.ext hk
 replace kw := kw.x hk
 clear hR hk hg hP
 refine zn (hK4 _ _ ?_)
 refine zc e10 (fun hc => ?_) (fun hc => ?_)
 ·
  have hk : x.k ≠ 5 := by simp at hc; omega
  have hb : getB x name = false := by rw [getB, if_pos hk]
  have hv2 : getV x name = V.mk 0 0 ⟨#[]⟩ [] [] := by rw [getV, if_pos hk]; rfl
  refine zq fun K6 hK6 => ?_
  refine rg mixed y5 zz5 ?_
  refine .i (v := (.agg #[(.int .u8 (0)), (.int .i64 (0)), (.string (⟨#[]⟩)), (.slice none 0 0), (.slice none 0 0)])) (sp_build (vs := []) Try.underlying33 z33 (pl33 Try.underlying33) trivial rfl) ?_
  refine .dn fun a7 g W7 y7 zz7 hk hg hV hR hP => ?_
  obtain ⟨e11, -⟩ := hV
  replace e4 := ft hR e4
  replace D_cn0 := D_cn0.ext hk
  replace D_ci0 := D_ci0.ext hk
  replace e11 := e11.q
  replace own_b4_2 := own_b4_2.ext hk
  replace own_b2_2 := own_b2_2.ext hk
  replace kw := kw.x hk
  clear hR hk hg hP
  refine tail_store e4 e11 sz33 rfl own_b4_2 (lbr rfl) (all_cons rfl (all_cons rfl (all_cons rfl (all_cons rfl (all_cons rfl all_nil))))) (fun W8 hs own_b4_2 => ?_)
  have own_b4_2 : Own W8 b4_2 z5C 33 := own_b4_2
  replace own_b2_2 := own_store own_b2_2 hs ne_b4_2_b2_2.symm
  replace D_cn0 := sa_store D_cn0 hs (by simp)
  replace D_ci0 := sa_store D_ci0 hs (by simp)
  replace kw := keeps_store kw hs lo_b4_2
  clear hs
  refine tail_assign (v := (.bool (false))) rfl (by rw [y7]; exact Nat.le_of_ble_eq_true rfl) (fun a9 y9 zz9 e5 hr => ?_)
  replace y9 := y9.trans y7; replace zz9 := zz9.trans zz7
  replace e4 := (hr 4 (by decide)).trans e4
  replace e11 := (hr 11 (by decide)).trans e11
  clear hr
  refine zn (hK6 _ _ ?_)
  refine wp_ret ?_
  refine retCT (v := (.agg #[(.int .u8 (0)), (.int .i64 (0)), (.string (⟨#[]⟩)), (.slice none 0 0), (.slice none 0 0)])) rfl zz9 e4 own_b4_2 agg33 sz33 rfl (fun h => by cases h) rfl e5 ⟨_, rfl, kw, ?_⟩
  refine ⟨_, by rw [hb], ?_⟩
  rw [hv2]
  exact sf_fr (rdV_mk (lbr rfl) (rd_nil _) (rd_nil _) : Rd W8 (SF w [b4_2, b2_2]) (V.d (V.mk (0) (0) (⟨#[]⟩) ([]) ([]))) _)
 have hk : ¬ x.k ≠ 5 := by simp at hc; omega
 refine wp_skip (hK3 _ _ ?_)
 refine zq fun K10 hK10 => ?_
 refine rg mixed y5 zz5 ?_
 refine .i (fo 3 (hbs rfl e2) Try.underlying33 rfl sz23 rfl) ?_
 refine .i (lo1 (hlc rfl) own_b2_2 trivial agg23 sz23 rfl) ?_
 refine .mb rfl e1 ?_
 refine .i (v := (.tuple #[(.int .i64 (findI x.ns name)), (.bool (findB x.ns name))])) (sp_call2 (φ1 := IsD (SA w S [b4_2, b2_2]) (strsD (x.ns))) (φ2 := Is (.string (name))) ent145 ((hlc rfl).dat D_cn0 sub_all) (hlc rfl) (fun g u1 u2 W hk hgk h1 h2 => by have h2 : u2 = _ := h2; subst u2; exact find_ok (x.ns) (name) (by omega) W _ _ h1)) ?_
 refine .i (sp_move (hlc rfl)) ?_
 refine .i (v := (.int .i64 (findI x.ns name))) (sp_extT (hlc rfl) rfl) ?_
 refine .i (v := (.bool (findB x.ns name))) (sp_extT (hlc rfl) rfl) ?_
 refine .al rfl ?_
 refine .al rfl ?_
 refine .dn fun a11 g W11 y11 zz11 hk hg hV hR hP => ?_
 obtain ⟨e7, e6, -, -, -, -, -, -, -, -⟩ := hV
 replace e4 := ft hR e4
 replace e2 := ft hR e2
 replace D_cn0 := D_cn0.ext hk
 replace D_ci0 := D_ci0.ext hk
 replace e6 := e6.q
 replace e7 := e7.q
 replace own_b4_2 := own_b4_2.ext hk
 replace own_b2_2 := own_b2_2.ext hk
 replace kw := kw.x hk
 clear hR hk hg hP
 refine zn (hK10 _ _ ?_)
 refine zq fun K12 hK12 => ?_
 refine zq fun K13 hK13 => ?_
 refine rg mixed y11 zz11 ?_
 refine .mb rfl e7 ?_
 refine .i (sp_not (hlc rfl)) ?_
 refine .i (sp_move (hlc rfl)) ?_
 refine .em rfl (hlc rfl) rfl e6 ?_
 refine .e rfl (hlc rfl) (fun hg => fo 4 (hbs rfl e2) Try.underlying33 rfl sz31 rfl) ?_
 refine .e rfl (hlc rfl) (fun hg => lo1 ((hlc rfl).undE hg) own_b2_2 trivial agg31 sz31 rfl) ?_
 refine .e rfl (hlc rfl) (fun hg => sp_lenVs Try.underlying31 (((hlc rfl).undE hg).dat D_ci0 sub_all)) ?_
 refine .e rfl (hlc rfl) (fun hg => sp_geq ((hlc rfl).undE hg) ((hlc rfl).undE hg)) ?_
 refine .i (sp_or (hlc rfl) ((hlc rfl).weak fun hq => hq)) ?_
 refine .dn fun a14 g W14 y14 zz14 hk hg hV hR hP => ?_
 obtain ⟨e27, -, -, -, -, -, -, -, -, -⟩ := hV
 replace e4 := ft hR e4
 replace e2 := ft hR e2
 replace e6 := ft hR e6
 replace D_cn0 := D_cn0.ext hk
 replace D_ci0 := D_ci0.ext hk
 replace e27 := e27.q
 replace own_b4_2 := own_b4_2.ext hk
 replace own_b2_2 := own_b2_2.ext hk
 replace kw := kw.x hk
 clear hR hk hg hP
 refine zn (hK13 _ _ ?_)
 refine zc e27 (fun hc => ?_) (fun hc => ?_)
 ·
  have hn : findB x.ns name = false ∨ (x.xs.length : Int) ≤ findI x.ns name := by rcases (Bool.or_eq_true _ _).mp hc with h | h; exact .inl (by simpa using h); exact .inr (of_decide_eq_true h)
  have hb : getB x name = false := by rw [getB, if_neg hk, if_pos hn]
  have hv2 : getV x name = V.mk 0 0 ⟨#[]⟩ [] [] := by rw [getV, if_neg hk, if_pos hn]; rfl
  refine zq fun K15 hK15 => ?_
  refine rg mixed y14 zz14 ?_
  refine .i (v := (.agg #[(.int .u8 (0)), (.int .i64 (0)), (.string (⟨#[]⟩)), (.slice none 0 0), (.slice none 0 0)])) (sp_build (vs := []) Try.underlying33 z33 (pl33 Try.underlying33) trivial rfl) ?_
  refine .dn fun a16 g W16 y16 zz16 hk hg hV hR hP => ?_
  obtain ⟨e28, -⟩ := hV
  replace e4 := ft hR e4
  replace D_cn0 := D_cn0.ext hk
  replace D_ci0 := D_ci0.ext hk
  replace e28 := e28.q
  replace own_b4_2 := own_b4_2.ext hk
  replace own_b2_2 := own_b2_2.ext hk
  replace kw := kw.x hk
  clear hR hk hg hP
  refine tail_store e4 e28 sz33 rfl own_b4_2 (lbr rfl) (all_cons rfl (all_cons rfl (all_cons rfl (all_cons rfl (all_cons rfl all_nil))))) (fun W17 hs own_b4_2 => ?_)
  have own_b4_2 : Own W17 b4_2 z5C 33 := own_b4_2
  replace own_b2_2 := own_store own_b2_2 hs ne_b4_2_b2_2.symm
  replace D_cn0 := sa_store D_cn0 hs (by simp)
  replace D_ci0 := sa_store D_ci0 hs (by simp)
  replace kw := keeps_store kw hs lo_b4_2
  clear hs
  refine tail_assign (v := (.bool (false))) rfl (by rw [y16]; exact Nat.le_of_ble_eq_true rfl) (fun a18 y18 zz18 e5 hr => ?_)
  replace y18 := y18.trans y16; replace zz18 := zz18.trans zz16
  replace e4 := (hr 4 (by decide)).trans e4
  replace e28 := (hr 28 (by decide)).trans e28
  clear hr
  refine zn (hK15 _ _ ?_)
  refine wp_ret ?_
  refine retCT (v := (.agg #[(.int .u8 (0)), (.int .i64 (0)), (.string (⟨#[]⟩)), (.slice none 0 0), (.slice none 0 0)])) rfl zz18 e4 own_b4_2 agg33 sz33 rfl (fun h => by cases h) rfl e5 ⟨_, rfl, kw, ?_⟩
  refine ⟨_, by rw [hb], ?_⟩
  rw [hv2]
  exact sf_fr (rdV_mk (lbr rfl) (rd_nil _) (rd_nil _) : Rd W17 (SF w [b4_2, b2_2]) (V.d (V.mk (0) (0) (⟨#[]⟩) ([]) ([]))) _)
 have hfb : findB x.ns name = true := by simpa using (Bool.or_eq_false_iff.1 hc).1
 have hfi := of_decide_eq_false (Bool.or_eq_false_iff.1 hc).2
 have hn : ¬ (findB x.ns name = false ∨ (x.xs.length : Int) ≤ findI x.ns name) := by rintro (h | h); rw [hfb] at h; cases h; exact hfi h
 obtain ⟨at_, hat, hatn⟩ := find_at hfb
 have hatx : at_ < x.xs.length := by omega
 have hb : getB x name = true := by rw [getB, if_neg hk, if_neg hn]
 have hv2 := getV_in hk hn hat hatx
 have hwm := wts_mem hatx
 refine wp_skip (hK12 _ _ ?_)
 refine zq fun K19 hK19 => ?_
 refine rg mixed y14 zz14 ?_
 refine .i (fo 4 (hbs rfl e2) Try.underlying33 rfl sz31 rfl) ?_
 refine .i (lo1 (hlc rfl) own_b2_2 trivial agg31 sz31 rfl) ?_
 refine .mb rfl e6 ?_
 refine .rf (sp_indexV (i := at_) ((hlc rfl).dat D_ci0 sub_all) (hlc rfl) Try.underlying31 sz33 hat hatx) ?_
 refine .da (sp_loadV (hlc rfl) agg33 sz33) ?_
 refine .da (X := Fr W14) (e := V.d (x.xs[at_]'hatx)) (sp_call1 (φ1 := IsD (SA w S [b4_2, b2_2]) (V.d (x.xs[at_]'hatx))) ent79 (hlc rfl) (fun g u1 W hk hgk h1 => (Copy_ok (x.xs[at_]'hatx) (by first | omega | exact Nat.le_of_ble_eq_true (by kernel_rfl)) W _ _ (fun b o h => sa_cln hS b o h.1) h1).mono (ret_fr hk hgk))) ?_
 refine .dn fun a20 g W20 y20 zz20 hk hg hV hR hP => ?_
 obtain ⟨e34, -, -, -, -, -, -⟩ := hV
 replace e4 := ft hR e4
 replace D_cn0 := D_cn0.ext hk
 replace D_ci0 := D_ci0.ext hk
 obtain ⟨v34_20, ev⟩ : ∃ v, sl a20 34 = v := ⟨_, rfl⟩
 rw [ev] at e34
 have D_v34_20 : Rd W20 (SF w [b4_2, b2_2]) (V.d (x.xs[at_]'hatx)) v34_20 := fr_end (M := [b4_2, b2_2]) e34 kw [] in_nil (in_cons own_b4_2.lt (in_cons own_b2_2.lt in_nil))
 replace e34 := ev; clear ev
 obtain ⟨cn34_20a, cn34_20c, ci34_20a, ci34_20c, ev, ht_v34_20, D_cn34_20, D_ci34_20⟩ := rdV_out D_v34_20
 subst ev; clear D_v34_20
 replace own_b4_2 := own_b4_2.ext hk
 replace own_b2_2 := own_b2_2.ext hk
 replace kw := kw.x hk
 clear hR hk hg hP
 refine tail_store e4 e34 sz33 rfl own_b4_2 (lbr rfl) (all_cons rfl (all_cons rfl (all_cons rfl (all_cons rfl (all_cons rfl all_nil))))) (fun W21 hs own_b4_2 => ?_)
 have own_b4_2 : Own W21 b4_2 [(.int .u8 ((x.xs[at_]'hatx).k)), (.int .i64 ((x.xs[at_]'hatx).n)), (.string ((x.xs[at_]'hatx).t)), (.slice cn34_20a (((x.xs[at_]'hatx).ns).length) cn34_20c), (.slice ci34_20a (((x.xs[at_]'hatx).xs).length) ci34_20c)] 33 := own_b4_2
 replace own_b2_2 := own_store own_b2_2 hs ne_b4_2_b2_2.symm
 replace D_cn0 := sa_store D_cn0 hs (by simp)
 replace D_ci0 := sa_store D_ci0 hs (by simp)
 replace D_cn34_20 := sf_store D_cn34_20 hs (by simp)
 replace D_ci34_20 := sf_store D_ci34_20 hs (by simp)
 replace kw := keeps_store kw hs lo_b4_2
 clear hs
 refine tail_assign (v := (.bool (true))) rfl (by rw [y20]; exact Nat.le_of_ble_eq_true rfl) (fun a22 y22 zz22 e5 hr => ?_)
 replace y22 := y22.trans y20; replace zz22 := zz22.trans zz20
 replace e4 := (hr 4 (by decide)).trans e4
 replace e34 := (hr 34 (by decide)).trans e34
 clear hr
 refine zn (hK19 _ _ ?_)
 refine wp_ret ?_
 refine retCT (v := (.agg #[(.int .u8 ((x.xs[at_]'hatx).k)), (.int .i64 ((x.xs[at_]'hatx).n)), (.string ((x.xs[at_]'hatx).t)), (.slice cn34_20a (((x.xs[at_]'hatx).ns).length) cn34_20c), (.slice ci34_20a (((x.xs[at_]'hatx).xs).length) ci34_20c)])) rfl zz22 e4 own_b4_2 agg33 sz33 rfl (fun h => by cases h) rfl e5 ⟨_, rfl, kw, ?_⟩
 refine ⟨_, by rw [hb], ?_⟩
 rw [hv2]
 exact sf_fr (rdV_in (x := (x.xs[at_]'hatx)) ht_v34_20 D_cn34_20 D_ci34_20 : Rd W21 (SF w [b4_2, b2_2]) (V.d ((x.xs[at_]'hatx))) _)
end Go.Proofs.Ytnobijngkpflcaa
namespace Go.Eng
section
variable {P : Program} {Q : Exit → Act → World → Prop} {a : Act} {w : World}
def LoopAt (P : Program) (c : Code) (Q : Exit → Act → World → Prop) (a : Act) (w : World) : Prop :=
  ∀ b k cs, ∃ e a' w', Q e a' w' ∧ Arrives P (lone (b.at a (.code c :: .inLoop c :: k)) cs w) b k cs e a' w'
theorem wp_loopAt {c : Code} (h : LoopAt P c Q a w) : (Code.loop c).wp P Q a w := by
  intro b k cs
  obtain ⟨e, a', w', hq, harr⟩ := h b k cs
  exact ⟨e, a', w', hq, .of_steps (.one step_loop) harr⟩
theorem loopAt {c : Code} (h : c.wp P (Exit.then (fun a' w' => LoopAt P c Q a' w') Q) a w) : LoopAt P c Q a w := by
  intro b k cs
  obtain ⟨e, a₁, w₁, hq, harr⟩ := h b (.inLoop c :: k) cs
  cases e with
  | normal =>
    obtain ⟨e₂, a₂, w₂, hq₂, harr₂⟩ := hq b k cs
    exact ⟨e₂, a₂, w₂, hq₂, .of_steps (Steps.trans harr (.one step_inLoop)) harr₂⟩
  | exit id => exact ⟨_, a₁, w₁, hq, .pass (x := .inLoop c) rfl (fun _ _ => .inl (by simp)) harr⟩
  | goto l => exact ⟨_, a₁, w₁, hq, .pass (x := .inLoop c) rfl (fun _ _ => .inl (by simp)) harr⟩
  | ret => exact ⟨_, a₁, w₁, hq, .pass (x := .inLoop c) rfl (fun _ _ => .inl (by simp)) harr⟩
  | panic ch => exact ⟨_, a₁, w₁, hq, .pass (x := .inLoop c) rfl (fun _ _ => .inl (by simp)) harr⟩
  | outgrown => exact ⟨_, a₁, w₁, hq, .pass (x := .inLoop c) rfl (fun _ _ => .inl (by simp)) harr⟩
end
theorem RowIs.set {W : World} {X : BSet} {sz : Nat} {d : D} {c : List Value} (hl : c.length = sz) (h : RdC W X d c) : ∀ {ds : List D} {cs : List Value} (i : Nat), i < ds.length → RowIs W X sz ds cs → RowIs W X sz (ds.set i d) (splice cs (i * sz) c)
  | [], _, i, hi, _ => by simp at hi
  | e :: ds, cs, 0, _, hr => by
    simp only [RowIs] at hr
    obtain ⟨c1, r, rfl, h1, h2, h3⟩ := hr
    simp only [List.set_cons_zero, RowIs]
    exact ⟨c, r, by simp [splice, hl, ← h1], hl, h, h3⟩
  | e :: ds, cs, i + 1, hi, hr => by
    simp only [RowIs] at hr
    obtain ⟨c1, r, rfl, h1, h2, h3⟩ := hr
    simp only [List.set_cons_succ, RowIs]
    refine ⟨c1, splice r (i * sz) c, ?_, h1, h2, RowIs.set hl h i (by simpa using hi) h3⟩
    unfold splice
    rw [Nat.add_mul, Nat.one_mul, Nat.add_comm (i * sz) sz, ← h1, List.take_append, List.drop_append]
    simp [List.take_of_length_le, Nat.add_assoc]
theorem arr_open {W : World} {lo : Nat} {e : TypeId} {sz : Nat} {X : BSet} {ds : List D} {v : Value} {hd : Option Nat} (h : Arr W lo e sz X ds v hd) (hn : 0 < ds.length) : ∃ g cap, v = .slice (some ⟨g, 0, none⟩) ds.length cap ∧ hd = some g := by
  obtain ⟨h1, cs, h2, _⟩ := h
  rcases h2.2 with ⟨_, h0⟩ | ⟨g, cap, cur, rfl, _⟩
  · omega
  · exact ⟨g, cap, rfl, h1.symm⟩
theorem rdC_zV (W : World) (X : BSet) : RdC W X (V.d V.zero) [.int .u8 0, .int .i64 0, .string ⟨#[]⟩, .slice none 0 0, .slice none 0 0] := by
  rw [V.d_eq]; simp only [RdC]; exact zV W X
end Go.Eng
namespace Go.Eng
theorem u8_in {n : Int} (h : 0 ≤ n ∧ n < 256) : IntKind.u8.wrap n = n := by
  simp only [IntKind.wrap, IntKind.signed, IntKind.bits]
  simp
  omega
abbrev As := List (ByteArray × Int)
def mget : As → ByteArray → Int
  | [], _ => 0
  | (s, n) :: r, k => if k = s then n else mget r k
def mset : As → ByteArray → Int → As
  | [], k, n => [(k, n)]
  | (s, m) :: r, k, n => if k = s then (s, n) :: r else (s, m) :: mset r k n
def midx : As → ByteArray → Option (Nat × Int)
  | [], _ => none
  | (s, n) :: r, k => if k = s then some (0, n) else (midx r k).map fun q => (q.1 + 1, q.2)
theorem mget_set (A : As) (k j : ByteArray) (n : Int) : mget (mset A k n) j = if j = k then n else mget A j := by
  induction A with
  | nil => simp only [mset, mget]
  | cons q A ih =>
    obtain ⟨s, m⟩ := q
    simp only [mset]
    by_cases h : k = s
    · subst h
      rw [if_pos rfl]
      simp only [mget]
      by_cases hj : j = k <;> simp [hj]
    · rw [if_neg h]
      simp only [mget, ih]
      by_cases hj : j = s
      · subst hj
        have : ¬ j = k := fun e => h e.symm
        simp [this]
      · simp [hj]
theorem midx_get (A : As) (k : ByteArray) : mget A k = match midx A k with | none => 0 | some q => q.2 := by
  induction A with
  | nil => rfl
  | cons q A ih =>
    obtain ⟨s, m⟩ := q
    simp only [mget, midx]
    by_cases h : k = s
    · simp [h]
    · simp only [h, if_false, ih]
      cases midx A k <;> rfl
def MapIs (es : List MapEntry) (A : As) : Prop := es.map (fun e => (e.key, e.val)) = A.map fun q => (Value.string q.1, Value.int .i64 q.2)
def OwnM (W : World) (b : Nat) (A : As) : Prop := ∃ es clock, W.heap[b]? = some (.map es clock) ∧ MapIs es.toList A
theorem OwnM.lt {W : World} {b : Nat} {A : As} (h : OwnM W b A) : b < W.heap.size := by
  obtain ⟨_, _, h, _⟩ := h; exact (Array.getElem?_eq_some_iff.1 h).1
theorem OwnM.keeps {W W' : World} {b : Nat} {A : As} {S : Nat → Prop} (h : OwnM W b A) (k : Keeps S W W') (hs : S b) : OwnM W' b A := by
  obtain ⟨es, c, h1, h2⟩ := h
  exact ⟨es, c, (k.block b (Array.getElem?_eq_some_iff.1 h1).1 hs).trans h1, h2⟩
theorem OwnM.ext {W W' : World} {b : Nat} {A : As} (h : OwnM W b A) (k : Ext W W') : OwnM W' b A := h.keeps k trivial
theorem ownM_store {W W' : World} {b b' : Nat} {A : As} (h : OwnM W b' A) (k : Keeps (fun x => x ≠ b) W W') (hne : b' ≠ b) : OwnM W' b' A := h.keeps k hne
theorem find_now (k : ByteArray) : ∀ (es : List MapEntry) (A : As) (i : Nat), MapIs es A → Instr.findNow .string (.string k) es i = some ((midx A k).map fun q => (i + q.1, .int .i64 q.2))
  | [], A, i, h => by
    have : A = [] := by simpa [MapIs] using h
    subst this; rfl
  | e :: es, [], i, h => by simp [MapIs] at h
  | e :: es, (s, n) :: A, i, h => by
    simp only [MapIs, List.map_cons, List.cons.injEq, Prod.mk.injEq] at h
    obtain ⟨⟨h1, h2⟩, h3⟩ := h
    unfold Instr.findNow
    simp only [h1, Instr.sameNow, midx]
    by_cases hk : k = s
    · subst hk
      have hb : (k == k) = true := (MapKept.bytes_beq k k).2 rfl
      simp [hb, h2]
    · have hb : (k == s) = false := by
        cases hq : (k == s) with
        | false => rfl
        | true => exact absurd ((MapKept.bytes_beq k s).1 hq) hk
      simp only [hb, hk, if_false]
      rw [find_now k es A (i + 1) h3]
      cases midx A k with
      | none => rfl
      | some q => simp; omega
theorem midx_at (k : ByteArray) : ∀ (A : As) (j : Nat) (n : Int), midx A k = some (j, n) → ∃ h : j < A.length, A[j] = (k, n) ∧ mset A k = fun m => A.set j (k, m)
  | [], j, n, h => by cases h
  | (s, m) :: A, j, n, h => by
    simp only [midx] at h
    by_cases hk : k = s
    · subst hk
      simp at h
      obtain ⟨rfl, rfl⟩ := h
      exact ⟨by simp, rfl, by funext q; simp [mset]⟩
    · rw [if_neg hk] at h
      cases hq : midx A k with
      | none => rw [hq] at h; cases h
      | some q =>
        rw [hq] at h
        simp at h
        obtain ⟨rfl, rfl⟩ := h
        obtain ⟨h1, h2, h3⟩ := midx_at k A q.1 q.2 (by rw [hq])
        refine ⟨by simpa using h1, by simpa using h2, ?_⟩
        funext x
        simp [mset, hk, h3]
theorem midx_none (k : ByteArray) : ∀ A : As, midx A k = none → ∀ n, mset A k n = A ++ [(k, n)]
  | [], _, n => rfl
  | (s, m) :: A, h, n => by
    simp only [midx] at h
    by_cases hk : k = s
    · rw [if_pos hk] at h; cases h
    · rw [if_neg hk] at h
      simp only [mset, hk, if_false, List.cons_append]
      rw [midx_none k A (by cases hq : midx A k with | none => rfl | some q => rw [hq] at h; cases h) n]
section
variable {P : Program} {ops : Array Oper} {S : Nat → Prop} {w0 : World} {a0 : Act} {Γ : Ctx}
variable {d : Option Tmp} {ty : TypeId} {pos : String} {af : Array Edge} {gd : Option (Nat × Bool)}
variable {K : List Oper → Ctx → (World → Prop) → List Bool → Prop} {l : List Oper} {Ψ Ψ' : World → Prop} {ms : List Bool} {fl : Bool}
theorem run_lookupM {W : World} {b : Nat} {A : As} {T kt et : TypeId} {k : ByteArray} (hT : P.underlying T = some (.map kt et)) (hk : P.underlying kt = some .string) (hz : zeroOf P et = some (.int .i64 0)) (h : OwnM W b A) :
    (Instr.lookup T (.map (some b)) (.string k) false).run P W = .ok (.int .i64 (mget A k)) W := by
  obtain ⟨es, c, h1, h2⟩ := h
  have hf := find_now k es.toList A 0 h2
  have hck := MapKept.run_checkKey (P := P) (w := W) (kt := kt) (d := .string) (k := .string k) hk trivial es.isEmpty 9999
  have hfk := MapKept.run_findKey (P := P) (w := W) hk hf
  have hzz : (zeroValue et).run P W = .ok (.int .i64 0) W := by
    unfold zeroOf at hz
    cases hi : P.info? et with
    | none => rw [hi] at hz; cases hz
    | some i => rw [hi] at hz; simp at hz; simp [zeroValue, typeInfo, program, Sem.run, hi, hz]
  have hg : (getObj b).run P W = .ok (.map es c) W := by simp [getObj, Sem.run, h1]
  rw [midx_get]
  simp only [Instr.lookup, Sem.run_bind, run_und hT, Result.andThen_ok, hg, Sem.run_pure, hck, hfk]
  cases midx A k with
  | none => simp [hzz]
  | some q => simp
theorem sp_lookup {x y : Operand} {b : Nat} {A : As} {T kt et : TypeId} {k : ByteArray} (hT : P.underlying T = some (.map kt et)) (hk : P.underlying kt = some .string) (hz : zeroOf P et = some (.int .i64 0)) (hx : Has S w0 a0 Γ x (Is (.map (some b)))) (hy : Has S w0 a0 Γ y (Is (.string k))) (h : OwnM w0 b A) (hS : S b) :
    Spec P ops S w0 a0 Γ ⟨d, .lookup T x y false, ty, pos, af, gd⟩ (Is (.int .i64 (mget A k))) := sp_val fun a g W hk' hg he => by
  have e1 : a.eval x = .map (some b) := hx.of_env hk' hg he (by simp [Op.operands])
  have e2 : a.eval y = .string k := hy.of_env hk' hg he (by simp [Op.operands])
  simp [execOp, e1, e2, run_lookupM hT hk hz (h.keeps hk' hS)]
def IsMap (A : As) (t : Nat) : Fact := fun g u W => ∃ b, u = .map (some b) ∧ (t, b) ∈ g ∧ OwnM W b A
theorem st_map {A : As} {t : Nat} : Stable All (IsMap A t) :=
  ⟨fun _ _ _ _ k ⟨b, h1, h2, h3⟩ => ⟨b, h1, h2, h3.ext k⟩, fun _ _ _ _ _ _ ⟨b, h1, h2, h3⟩ => ⟨b, h1, List.mem_cons_of_mem _ h2, h3⟩⟩
theorem Chain.mkMap {t : Nat} {T : TypeId} (h : Chain P ops All w0 a0 K fl l ((some t, IsMap [] t) :: Γ) Ψ (false :: ms)) :
    Chain P ops All w0 a0 K fl (⟨some t, .makeMap T none, ty, pos, af, none⟩ :: l) Γ Ψ ms := by
  refine .box _ t st_map rfl (fun a g W hk hg he => ?_) h
  have hw : Region.wanted (⟨some t, .makeMap T none, ty, pos, af, none⟩ : Oper) (yielded ops a.tmps) = true := rfl
  unfold ObRun; rw [if_pos hw]
  unfold OpRuns
  have : (execOp a.eval ⟨some t, .makeMap T none, ty, pos, af, none⟩).run P W = .ok (.value (.map (some W.heap.size))) (W.alloc (.map #[] 0)) := by
    simp [execOp, Instr.makeMap, newObj, Sem.run]
  rw [this]
  exact ⟨ext_alloc _ _, by simp, W.heap.size, rfl, List.mem_cons_self, #[], 0, by show (W.heap.push _)[W.heap.size]? = _; simp, rfl⟩
theorem run_updM {W : World} {b : Nat} {A : As} {T kt et : TypeId} {k : ByteArray} {n : Int} (hT : P.underlying T = some (.map kt et)) (hk : P.underlying kt = some .string) (h : OwnM W b A) :
    ∃ W', (Instr.mapUpdate T (.map (some b)) (.string k) (.int .i64 n)).run P W = .ok () W' ∧ Keeps (fun x => x ≠ b) W W' ∧ OwnM W' b (mset A k n) := by
  obtain ⟨es, c, h1, h2⟩ := h
  have hf := find_now k es.toList A 0 h2
  have hck := MapKept.run_checkKey (P := P) (w := W) (kt := kt) (d := .string) (k := .string k) hk trivial false 9999
  have hfk := MapKept.run_findKey (P := P) (w := W) hk hf
  have hg : (getObj b).run P W = .ok (.map es c) W := by simp [getObj, Sem.run, h1]
  have keeps : ∀ o, Keeps (fun x => x ≠ b) W { W with heap := W.heap.setIfInBounds b o } := fun o => ⟨rfl, rfl, rfl, by simp, fun x _ hx => (MapKept.heap_set h1).2 x hx⟩
  cases hm : midx A k with
  | none =>
    rw [hm] at hfk
    refine ⟨_, ?_, keeps (.map (es.push { key := .string k, val := .int .i64 n, born := c }) (c + 1)), _, _, (MapKept.heap_set h1).1, ?_⟩
    · simp only [Instr.mapUpdate, Sem.run_bind, run_und hT, Result.andThen_ok, hg, hck, hfk, Option.map_none]
      exact MapKept.run_setObj_map _ h1
    · rw [midx_none k A hm]
      simp only [MapIs, Array.toList_push, List.map_append, List.map_cons, List.map_nil]
      rw [h2]
  | some q =>
    rw [hm] at hfk
    obtain ⟨hj, hA, hset⟩ := midx_at k A q.1 q.2 hm
    have hlen : es.size = A.length := by have := congrArg List.length h2; simpa using this
    have hje : q.1 < es.size := by omega
    have hkey : (es[q.1]'hje).key = .string k := by
      have h3 : (es.toList.map (fun e => (e.key, e.val)))[q.1]? = (A.map fun q => (Value.string q.1, Value.int .i64 q.2))[q.1]? := congrArg (·[q.1]?) h2
      simp [hje, hj, hA] at h3
      exact h3.1
    refine ⟨_, ?_, keeps (.map (es.modify q.1 fun e => { e with key := .string k, val := .int .i64 n }) c), _, _, (MapKept.heap_set h1).1, ?_⟩
    · simp only [Instr.mapUpdate, Sem.run_bind, run_und hT, Result.andThen_ok, hg, hck, hfk, Option.map_some, Nat.zero_add]
      have hst : (Instr.keyThatStays (((es[q.1]?).map (·.key)).getD (.string k)) (.string k)).run P W = .ok (.string k) W := by
        have hb : (k == k) = true := (MapKept.bytes_beq k k).2 rfl
        simp [hje, hkey, Instr.keyThatStays, Instr.sameBits, hb]
      rw [hst]
      simp only [Result.andThen_ok]
      exact MapKept.run_setObj_map _ h1
    · rw [hset]
      simp only [MapIs]
      apply List.ext_getElem?
      intro i
      have h3 : (es.toList.map (fun e => (e.key, e.val)))[i]? = (A.map fun q => (Value.string q.1, Value.int .i64 q.2))[i]? := congrArg (·[i]?) h2
      by_cases hi : q.1 = i
      · subst hi
        simp [Array.getElem?_modify, hje, hj]
      · simp only [List.getElem?_map, Array.getElem?_toList, Array.getElem?_modify, hi, if_false, List.getElem?_set_ne hi] at h3 ⊢
        exact h3
theorem tail_updM {Q : Exit → Act → World → Prop} {r : List Oper} {a : Act} {W : World} {T kt et : TypeId} {x y z : Operand} {b : Nat} {A : As} {k : ByteArray} {n : Int}
    (hT : P.underlying T = some (.map kt et)) (hk : P.underlying kt = some .string) (hx : a.eval x = .map (some b)) (hy : a.eval y = .string k) (hz : a.eval z = .int .i64 n) (ho : OwnM W b A)
    (h : ∀ W', Keeps (fun k => k ≠ b) W W' → OwnM W' b (mset A k n) → runTail P ops Q r a W') : runTail P ops Q (⟨none, .mapUpdate T x y z, ty, pos, af, none⟩ :: r) a W := by
  obtain ⟨W', h1, h2, h3⟩ := run_updM (n := n) (k := k) hT hk ho
  have hw : Region.wanted (⟨none, .mapUpdate T x y z, ty, pos, af, none⟩ : Oper) (yielded ops a.tmps) = true := rfl
  unfold runTail ObRun; rw [if_pos hw]
  unfold OpRuns
  have : (execOp a.eval ⟨none, .mapUpdate T x y z, ty, pos, af, none⟩).run P W = .ok .skip W' := by simp [execOp, hx, hy, hz, h1]
  rw [this]
  exact h W' h2 h3
end
end Go.Eng
namespace Go.Eng
structure Au where
  th : Int
  ids : List ByteArray
def Au.d (a : Au) : D := .agg [.int .i64 a.th, strsD a.ids]
structure Mb where
  nm : ByteArray
  v : V
def Mb.d (a : Mb) : D := .agg [.str a.nm, a.v.d]
def mbsD (l : List Mb) : D := .lst 6 (l.map Mb.d)
structure Hs where
  al : ByteArray
  hx : ByteArray
def Hs.d (a : Hs) : D := .agg [.str a.al, .str a.hx]
def hssD (l : List Hs) : D := .lst 2 (l.map Hs.d)
structure Rc where
  ln : Int
  hs : List Hs
  cu : V
def Rc.d (a : Rc) : D := .agg [.int .i64 a.ln, hssD a.hs, a.cu.d]
section
variable {W : World} {S : BSet} {v : Value}
theorem rdL_out {sz : Nat} {ds : List D} {n : Nat} (hn : ds.length = n) (h : Rd W S (.lst sz ds) v) : ∃ ad cap, v = .slice ad n cap ∧ Rd W S (.lst sz ds) (.slice ad n cap) := by
  have h' := h
  obtain ⟨cs, h1, h2⟩ := h
  simp only [RdC] at h1
  obtain ⟨ad, cap, rfl, _⟩ := h1
  have e : v = .slice ad n cap := by rw [h2, hn]; rfl
  exact ⟨ad, cap, e, e ▸ h'⟩
theorem rdMbs_out {l : List Mb} (h : Rd W S (mbsD l) v) : ∃ ad cap, v = .slice ad l.length cap ∧ Rd W S (mbsD l) (.slice ad l.length cap) := rdL_out (by simp) h
theorem vcells {x : V} {cs : List Value} (h : RdC W S x.d cs) : ∃ a1 c1 a2 c2, cs = [.int .u8 x.k, .int .i64 x.n, .string x.t, .slice a1 x.ns.length c1, .slice a2 x.xs.length c2] ∧ x.t.size ≤ maxLen ∧ Rd W S (strsD x.ns) (.slice a1 x.ns.length c1) ∧ Rd W S (valsD x.xs) (.slice a2 x.xs.length c2) := by
  obtain ⟨a1, c1, a2, c2, e, h1, h2, h3⟩ := rdV_out (⟨cs, h, rfl⟩ : Rd W S x.d (asm x.d cs))
  refine ⟨a1, c1, a2, c2, ?_, h1, h2, h3⟩
  rw [V.d_eq] at e
  simp only [asm, Value.agg.injEq] at e
  have := congrArg Array.toList e
  simpa using this
theorem rdcV {x : V} {cs : Array Value} (h : Rd W S x.d (.agg cs)) : RdC W S x.d cs.toList := by
  obtain ⟨c, h1, e⟩ := h
  rw [V.d_eq] at e
  simp only [asm, Value.agg.injEq] at e
  subst e; simpa using h1
theorem rdMb_out {a : Mb} (h : Rd W S a.d v) : ∃ a1 c1 a2 c2, v = .agg #[.string a.nm, .int .u8 a.v.k, .int .i64 a.v.n, .string a.v.t, .slice a1 a.v.ns.length c1, .slice a2 a.v.xs.length c2] ∧ a.nm.size ≤ maxLen ∧ a.v.t.size ≤ maxLen ∧ Rd W S (strsD a.v.ns) (.slice a1 a.v.ns.length c1) ∧ Rd W S (valsD a.v.xs) (.slice a2 a.v.xs.length c2) := by
  obtain ⟨cs, h1, rfl⟩ := h
  simp only [Mb.d, RdC, RdF] at h1
  obtain ⟨_, _, rfl, ⟨rfl, h2⟩, c2, _, rfl, h3, rfl⟩ := h1
  obtain ⟨a1, c1, a2, c2', rfl, h4, h5, h6⟩ := vcells h3
  exact ⟨a1, c1, a2, c2', rfl, h2, h4, h5, h6⟩
theorem rdMb_mk {nm : ByteArray} {x : V} {c1 c2 c3 c4 c5 : Value} (h : nm.size ≤ maxLen) (hv : Rd W S x.d (.agg #[c1, c2, c3, c4, c5])) : Rd W S (Mb.d ⟨nm, x⟩) (.agg #[.string nm, c1, c2, c3, c4, c5]) :=
  ⟨[.string nm, c1, c2, c3, c4, c5], by simp only [Mb.d, RdC, RdF]; exact ⟨[_], _, rfl, ⟨rfl, h⟩, [c1, c2, c3, c4, c5], [], rfl, rdcV hv, rfl⟩, rfl⟩
theorem width_Mb (a : Mb) : width a.d = 6 := by simp [Mb.d, width, widths, width_V]
end
theorem zMb (W : World) (X : BSet) : RdF W X [.str ⟨#[]⟩, V.d V.zero] [.string ⟨#[]⟩, .int .u8 0, .int .i64 0, .string ⟨#[]⟩, .slice none 0 0, .slice none 0 0] := ⟨[_], _, rfl, ⟨rfl, by decide⟩, _, [], rfl, rdC_zV W X, rfl⟩
section
variable {P : Program} {ops : Array Oper} {S : Nat → Prop} {w0 : World} {a0 : Act} {Γ : Ctx}
variable {d : Option Tmp} {ty : TypeId} {pos : String} {af : Array Edge} {gd : Option (Nat × Bool)}
theorem sp_indexL {α : Type} {x y : Operand} {T E : TypeId} {S' : BSet} {sz : Nat} {f : α → D} {xs : List α} {i : Nat} {j : Int} (hx : Has S w0 a0 Γ x (IsD S' (.lst sz (xs.map f)))) (hy : Has S w0 a0 Γ y (Is (.int .i64 j))) (hT : P.underlying T = some (.slice E)) (hz : szOf P E = some sz)
    (hj : j = i) (hi : i < xs.length) : Spec P ops S w0 a0 Γ ⟨d, .indexAddr T x y, ty, pos, af, gd⟩ (IsR S' (f xs[i])) := by
  subst hj
  have := sp_indexD (ty := ty) (pos := pos) (af := af) (gd := gd) (d := d) (ops := ops) hx hy hT hz (i := i) (by simpa using hi)
  simpa using this
theorem sp_lenL {α : Type} {x : Operand} {T E : TypeId} {S' : BSet} {sz : Nat} {f : α → D} {xs : List α} (hT : P.underlying T = some (.slice E)) (hx : Has S w0 a0 Γ x (IsD S' (.lst sz (xs.map f)))) :
    Spec P ops S w0 a0 Γ ⟨d, .call ⟨.builtin .len, #[x], #[T]⟩, ty, pos, af, gd⟩ (Is (.int .i64 xs.length)) := by
  have := sp_lenD (ops := ops) (d := d) (ty := ty) (pos := pos) (af := af) (gd := gd) hT hx
  simpa using this
end
end Go.Eng
namespace Go.Eng
def RetL (W : World) (L : List Nat) (φ : Value → World → Prop) : Ending → World → Prop := fun e W' => ∃ v, e = .returned v ∧ Keeps (fun k => k ∉ L) W W' ∧ φ v W'
theorem sa_notin {w : World} {S' : BSet} {M L : List Nat} (hb : ∀ b ∈ L, b ∈ M) : ∀ b ∈ L, ∀ o, ¬ SA w S' M b o := fun b h o hs => hs.2.2 (hb b h)
theorem sf_notin {w : World} {M L : List Nat} (hb : ∀ b ∈ L, b ∈ M) : ∀ b ∈ L, ∀ o, ¬ SF w M b o := fun b h o hs => hs.2.2 (hb b h)
theorem sub_frnl {W : World} {L : List Nat} (hb : ∀ b ∈ L, b < W.heap.size) : ∀ b' o, Fr W b' o → b' ∉ L := fun b' _ h e => by have := hb b' e; have := h.1; omega
section
variable {w W W' : World} {S : BSet} {M L : List Nat} {d : D} {v : Value} {S0 : Nat → Prop}
theorem sa_keepL (h : Rd W (SA w S M) d v) (k : Keeps (fun x => x ∉ L) W W') (hb : ∀ b ∈ L, b ∈ M) : Rd W' (SA w S M) d v := h.keeps k fun x _ hx e => hx.2.2 (hb x e)
theorem sf_keepL (h : Rd W (SF w M) d v) (k : Keeps (fun x => x ∉ L) W W') (hb : ∀ b ∈ L, b ∈ M) : Rd W' (SF w M) d v := h.keeps k fun x _ hx e => hx.2.2 (hb x e)
theorem own_keepL {b : Nat} {cs : List Value} {T : TypeId} (h : Own W b cs T) (k : Keeps (fun x => x ∉ L) W W') (hne : b ∉ L) : Own W' b cs T := h.keeps k hne
theorem ownM_keepL {b : Nat} {A : As} (h : OwnM W b A) (k : Keeps (fun x => x ∉ L) W W') (hne : b ∉ L) : OwnM W' b A := h.keeps k hne
theorem keeps_L (h : Keeps S0 w W) (k : Keeps (fun x => x ∉ L) W W') (hb : ∀ b ∈ L, w.heap.size ≤ b ∨ ¬ S0 b) : Keeps S0 w W' :=
  ⟨k.os.trans h.os, k.tape.trans h.tape, k.output.trans h.output, Nat.le_trans h.size k.size, fun i hi hs => by
    rw [k.block i (Nat.lt_of_lt_of_le hi h.size) (fun hm => (hb i hm).elim (fun h => by omega) (fun h => h hs))]; exact h.block i hi hs⟩
theorem keeps_storeN {b : Nat} (h : Keeps S0 w W) (k : Keeps (fun x => x ≠ b) W W') (hb : ¬ S0 b) : Keeps S0 w W' :=
  ⟨k.os.trans h.os, k.tape.trans h.tape, k.output.trans h.output, Nat.le_trans h.size k.size, fun i hi hs => by
    rw [k.block i (Nat.lt_of_lt_of_le hi h.size) (fun e => hb (e ▸ hs))]; exact h.block i hi hs⟩
end
section
variable {P : Program} {ops : Array Oper} {S : Nat → Prop} {w0 : World} {a0 : Act} {Γ : Ctx}
variable {d : Option Tmp} {ty : TypeId} {pos : String} {af : Array Edge}
variable {K : List Oper → Ctx → (World → Prop) → List Bool → Prop} {l : List Oper} {Ψ Ψ' : World → Prop} {ms : List Bool}
theorem Chain.callL {f : FuncId} {xs : Array Operand} {ts : Array TypeId} {φ : Fact} (hf : Enters P f) (hst : Stable S φ) (hst' : StableE Ψ')
    (hc : ∀ a g W, Keeps S w0 W → GOk w0 W g → Env Γ a0 a g W (Oper.looksAt ops ⟨d, .call ⟨.value (.func f), xs, ts⟩, ty, pos, af, none⟩) → Ψ W → Calls P f (xs.map a.eval) W fun e W' => ∃ v, e = .returned v ∧ Keeps S W W' ∧ φ g v W' ∧ Ψ' W')
    (h : Chain P ops S w0 a0 K false l ((d, φ) :: Γ) Ψ' (true :: ms)) :
    Chain P ops S w0 a0 K false (⟨d, .call ⟨.value (.func f), xs, ts⟩, ty, pos, af, none⟩ :: l) Γ Ψ ms := by
  refine Chain.main φ Ψ' hst hst' (fun a g W hk hg he hψ => ?_) h
  have hw : Region.wanted (⟨d, .call ⟨.value (.func f), xs, ts⟩, ty, pos, af, none⟩ : Oper) (yielded ops a.tmps) = true := rfl
  unfold ObRun; rw [if_pos hw]
  unfold OpRuns
  rw [run_call rfl hf]
  exact hc a g W hk hg he hψ
theorem Chain.callL1 {f : FuncId} {x : Operand} {ts : Array TypeId} {φ1 φ : Fact} (hf : Enters P f) (hx : Has S w0 a0 Γ x φ1) (hst : Stable S φ) (hst' : StableE Ψ')
    (hc : ∀ g u1 W, Keeps S w0 W → GOk w0 W g → φ1 g u1 W → Ψ W → Calls P f #[u1] W fun e W' => ∃ v, e = .returned v ∧ Keeps S W W' ∧ φ g v W' ∧ Ψ' W')
    (h : Chain P ops S w0 a0 K false l ((d, φ) :: Γ) Ψ' (true :: ms)) : Chain P ops S w0 a0 K false (⟨d, .call ⟨.value (.func f), #[x], ts⟩, ty, pos, af, none⟩ :: l) Γ Ψ ms :=
  Chain.callL hf hst hst' (fun a g W hk hg he hψ => by simpa using hc g _ W hk hg (hx.of_env hk hg he (by simp [Op.operands, Call.operands])) hψ) h
theorem Chain.callL2 {f : FuncId} {x y : Operand} {ts : Array TypeId} {φ1 φ2 φ : Fact} (hf : Enters P f) (hx : Has S w0 a0 Γ x φ1) (hy : Has S w0 a0 Γ y φ2) (hst : Stable S φ) (hst' : StableE Ψ')
    (hc : ∀ g u1 u2 W, Keeps S w0 W → GOk w0 W g → φ1 g u1 W → φ2 g u2 W → Ψ W → Calls P f #[u1, u2] W fun e W' => ∃ v, e = .returned v ∧ Keeps S W W' ∧ φ g v W' ∧ Ψ' W')
    (h : Chain P ops S w0 a0 K false l ((d, φ) :: Γ) Ψ' (true :: ms)) : Chain P ops S w0 a0 K false (⟨d, .call ⟨.value (.func f), #[x, y], ts⟩, ty, pos, af, none⟩ :: l) Γ Ψ ms :=
  Chain.callL hf hst hst' (fun a g W hk hg he hψ => by simpa using hc g _ _ W hk hg (hx.of_env hk hg he (by simp [Op.operands, Call.operands])) (hy.of_env hk hg he (by simp [Op.operands, Call.operands])) hψ) h
theorem Chain.callL3 {f : FuncId} {x y z : Operand} {ts : Array TypeId} {φ1 φ2 φ3 φ : Fact} (hf : Enters P f) (hx : Has S w0 a0 Γ x φ1) (hy : Has S w0 a0 Γ y φ2) (hz : Has S w0 a0 Γ z φ3) (hst : Stable S φ) (hst' : StableE Ψ')
    (hc : ∀ g u1 u2 u3 W, Keeps S w0 W → GOk w0 W g → φ1 g u1 W → φ2 g u2 W → φ3 g u3 W → Ψ W → Calls P f #[u1, u2, u3] W fun e W' => ∃ v, e = .returned v ∧ Keeps S W W' ∧ φ g v W' ∧ Ψ' W')
    (h : Chain P ops S w0 a0 K false l ((d, φ) :: Γ) Ψ' (true :: ms)) : Chain P ops S w0 a0 K false (⟨d, .call ⟨.value (.func f), #[x, y, z], ts⟩, ty, pos, af, none⟩ :: l) Γ Ψ ms :=
  Chain.callL hf hst hst' (fun a g W hk hg he hψ => by simpa using hc g _ _ _ W hk hg (hx.of_env hk hg he (by simp [Op.operands, Call.operands])) (hy.of_env hk hg he (by simp [Op.operands, Call.operands])) (hz.of_env hk hg he (by simp [Op.operands, Call.operands])) hψ) h
theorem Chain.callL4 {f : FuncId} {x y z q : Operand} {ts : Array TypeId} {φ1 φ2 φ3 φ4 φ : Fact} (hf : Enters P f) (hx : Has S w0 a0 Γ x φ1) (hy : Has S w0 a0 Γ y φ2) (hz : Has S w0 a0 Γ z φ3) (hq : Has S w0 a0 Γ q φ4) (hst : Stable S φ) (hst' : StableE Ψ')
    (hc : ∀ g u1 u2 u3 u4 W, Keeps S w0 W → GOk w0 W g → φ1 g u1 W → φ2 g u2 W → φ3 g u3 W → φ4 g u4 W → Ψ W → Calls P f #[u1, u2, u3, u4] W fun e W' => ∃ v, e = .returned v ∧ Keeps S W W' ∧ φ g v W' ∧ Ψ' W')
    (h : Chain P ops S w0 a0 K false l ((d, φ) :: Γ) Ψ' (true :: ms)) : Chain P ops S w0 a0 K false (⟨d, .call ⟨.value (.func f), #[x, y, z, q], ts⟩, ty, pos, af, none⟩ :: l) Γ Ψ ms :=
  Chain.callL hf hst hst' (fun a g W hk hg he hψ => by simpa using hc g _ _ _ _ W hk hg (hx.of_env hk hg he (by simp [Op.operands, Call.operands])) (hy.of_env hk hg he (by simp [Op.operands, Call.operands])) (hz.of_env hk hg he (by simp [Op.operands, Call.operands])) (hq.of_env hk hg he (by simp [Op.operands, Call.operands])) hψ) h
theorem sp_mkF1 {gd : Option (Nat × Bool)} {x : Operand} {f : FuncId} {u : Value} (hx : Has S w0 a0 Γ x (Is u)) : Spec P ops S w0 a0 Γ ⟨d, .makeFunc (.func f) #[] #[x], ty, pos, af, gd⟩ (Is (.func (.func f) #[] #[u])) := sp_mkF0 fun a g W hk hg he => by
  have e1 : a.eval x = u := hx.of_env hk hg he (by simp [Op.operands])
  simp [e1]
theorem stE_and {Ψ1 Ψ2 : World → Prop} (h1 : StableE Ψ1) (h2 : StableE Ψ2) : StableE fun W => Ψ1 W ∧ Ψ2 W := fun W W' k h => ⟨h1 W W' k h.1, h2 W W' k h.2⟩
theorem stE_own {b : Nat} {cs : List Value} {T : TypeId} : StableE fun W => Own W b cs T := fun _ _ k h => h.ext k
theorem stE_ownM {b : Nat} {A : As} : StableE fun W => OwnM W b A := fun _ _ k h => h.ext k
end
end Go.Eng
namespace Go.Eng
instance : Inhabited Mb := ⟨⟨⟨#[]⟩, V.zero⟩⟩
def cfM (a b : Mb) : Int := Lib.compareBytes a.nm.data.toList b.nm.data.toList
def ltM (a b : Mb) : Bool := decide (cfM a b < 0)
def outerF {α : Type} [Inhabited α] (lt : α → α → Bool) : Nat → Nat → Array α → Array α
  | 0, _, d => d
  | f + 1, i, d => outerF lt f (i + 1) (Sort.insInner lt 0 i d)
def sortMb (L : List Mb) : List Mb := (outerF ltM (L.length - 1) 1 L.toArray).toList
theorem insOuter_eq {α : Type} [Inhabited α] (lt : α → α → Bool) (b : Nat) : ∀ (f i : Nat) (d : Array α), b - i = f → Sort.insOuter lt 0 b i d = outerF lt f i d
  | 0, i, d, h => by rw [Sort.insOuter, if_neg (by omega)]; rfl
  | f + 1, i, d, h => by rw [Sort.insOuter, if_pos (by omega), insOuter_eq lt b f (i + 1) _ (by omega)]; rfl
theorem get!_map {α β : Type} [Inhabited α] [Inhabited β] (g : α → β) (hg : g default = default) (d : Array α) (j : Nat) : (d.map g)[j]! = g d[j]! := by
  by_cases h : j < d.size
  · rw [getElem!_pos _ j (by simpa using h), getElem!_pos d j h]; simp
  · rw [getElem!_neg _ j (by simpa using h), getElem!_neg d j h, hg]
theorem insInner_map {α β : Type} [Inhabited α] [Inhabited β] {lt : α → α → Bool} {lt' : β → β → Bool} (g : α → β) (hg : g default = default) (hl : ∀ x y, lt' (g x) (g y) = lt x y) : ∀ (j : Nat) (d : Array α), (Sort.insInner lt 0 j d).map g = Sort.insInner lt' 0 j (d.map g)
  | 0, d => rfl
  | j + 1, d => by
    rw [Sort.insInner, Sort.insInner, get!_map g hg, get!_map g hg, hl]
    split
    · rw [insInner_map g hg hl j]
      congr 1
      unfold Sort.swp
      rw [get!_map g hg, get!_map g hg]
      simp
    · rfl
theorem outerF_map {α β : Type} [Inhabited α] [Inhabited β] {lt : α → α → Bool} {lt' : β → β → Bool} (g : α → β) (hg : g default = default) (hl : ∀ x y, lt' (g x) (g y) = lt x y) : ∀ (f i : Nat) (d : Array α), (outerF lt f i d).map g = outerF lt' f i (d.map g)
  | 0, _, d => rfl
  | f + 1, i, d => by rw [outerF, outerF, outerF_map g hg hl f, insInner_map g hg hl]
theorem insInner_size {α : Type} [Inhabited α] (lt : α → α → Bool) : ∀ (j : Nat) (d : Array α), (Sort.insInner lt 0 j d).size = d.size
  | 0, d => rfl
  | j + 1, d => by
    rw [Sort.insInner]
    split
    · rw [insInner_size lt j]; simp [Sort.swp]
    · rfl
theorem outerF_size {α : Type} [Inhabited α] (lt : α → α → Bool) : ∀ (f i : Nat) (d : Array α), (outerF lt f i d).size = d.size
  | 0, _, d => rfl
  | f + 1, i, d => by rw [outerF, outerF_size lt f, insInner_size]
theorem sortMb_len (L : List Mb) : (sortMb L).length = L.length := by unfold sortMb; rw [Array.length_toList, outerF_size]; simp
structure MbC (w : World) (X : BSet) where
  enc : List Value
  mb : Mb
  ok : RdC w X mb.d enc
instance (w : World) (X : BSet) : Inhabited (MbC w X) := ⟨⟨[.string ⟨#[]⟩, .int .u8 0, .int .i64 0, .string ⟨#[]⟩, .slice none 0 0, .slice none 0 0], ⟨⟨#[]⟩, V.zero⟩, by simp only [Mb.d, RdC]; exact zMb w X⟩⟩
theorem MbC.len {w : World} {X : BSet} (p : MbC w X) : p.enc.length = 6 := (rdc_width _ _ p.ok).trans (width_Mb _)
theorem MbC.mbd {w : World} {X : BSet} : (default : MbC w X).mb = default := rfl
theorem row_split {w : World} {X : BSet} : ∀ (L : List Mb) (cs : List Value), RowIs w X 6 (L.map Mb.d) cs → ∃ l : List (MbC w X), l.map MbC.mb = L ∧ cs = (l.map MbC.enc).flatten
  | [], cs, h => ⟨[], rfl, by simp only [List.map_nil, RowIs] at h; rw [h]; rfl⟩
  | m :: L, cs, h => by
    simp only [List.map_cons, RowIs] at h
    obtain ⟨c, r, rfl, h1, h2, h3⟩ := h
    obtain ⟨l, e1, e2⟩ := row_split L r h3
    exact ⟨⟨c, m, h2⟩ :: l, by rw [List.map_cons, e1], by rw [e2]; rfl⟩
theorem row_join {w W : World} {X : BSet} (hs : w.heap.size ≤ W.heap.size) (hk : ∀ b, X b w.heap[b]? → b < w.heap.size → W.heap[b]? = w.heap[b]?) : ∀ (l : List (MbC w X)), RowIs W X 6 ((l.map MbC.mb).map Mb.d) (l.map MbC.enc).flatten
  | [] => rfl
  | p :: l => ⟨p.enc, _, rfl, p.len, rdc_move hs (fun b hb hlt => ⟨hk b hb hlt, by rw [hk b hb hlt]; exact hb⟩) _ _ p.ok, row_join hs hk l⟩
theorem flat_at {w : World} {X : BSet} : ∀ (l : List (MbC w X)) (t : Nat), t < l.length * 6 → (l.map MbC.enc).flatten[t]? = some (((l[t / 6]?).getD default).enc[t % 6]!)
  | [], t, h => by simp at h
  | p :: l, t, h => by
    rw [List.map_cons, List.flatten_cons]
    have hp := p.len
    by_cases ht : t < 6
    · rw [List.getElem?_append_left (by omega), Nat.div_eq_of_lt ht, Nat.mod_eq_of_lt ht, getElem!_pos _ t (by simp; omega)]
      simp [List.getElem?_eq_getElem (show t < p.enc.length by omega)]
    · have hd : t / 6 = (t - 6) / 6 + 1 := by omega
      have hm : t % 6 = (t - 6) % 6 := by omega
      rw [List.getElem?_append_right (by omega), hp, hd, hm, flat_at l (t - 6) (by simp at h; omega)]
      simp
theorem flat_len {w : World} {X : BSet} : ∀ (l : List (MbC w X)), (l.map MbC.enc).flatten.length = l.length * 6
  | [] => rfl
  | p :: l => by rw [List.map_cons, List.flatten_cons, List.length_append, p.len, flat_len l, List.length_cons]; omega
theorem flat_eq {w : World} {X : BSet} (l : List (MbC w X)) : (Sort.flatK MbC.enc 6 l.toArray).toList = (l.map MbC.enc).flatten := by
  apply List.ext_getElem?
  intro t
  by_cases h : t < l.length * 6
  · rw [flat_at l t h]
    have h' : t < (Sort.flatK MbC.enc 6 l.toArray).size := by simpa using h
    have := Sort.get_flatK MbC.enc 6 l.toArray t (by simpa using h)
    rw [getElem!_pos _ t h'] at this
    rw [Array.getElem?_toList, Array.getElem?_eq_getElem h', this]
    congr 2
    simp [Array.getElem!_eq_getD, Array.getD_eq_getD_getElem?]
  · rw [List.getElem?_eq_none (by simpa using h), List.getElem?_eq_none (by rw [flat_len]; omega)]
def RetA (W : World) (hd : Option Nat) (φ : Value → World → Prop) : Ending → World → Prop := fun e W' => ∃ v, e = .returned v ∧ Keeps (fun k => k ∉ blks hd) W W' ∧ φ v W'
set_option maxHeartbeats 1000000 in
theorem ins_row {P : Program} {ρ : Shelf.Ren} (Ly : Proofs.SlLaysF0.n20 P ρ) (aE : ∀ w, (isAgg (ρ.t 24)).run P w = .ok true w) (zE : ∀ w, (Go.sizeOf (ρ.t 24)).run P w = .ok 6 w) (f : Nat) (ef : Enters P f)
    (hf : ∀ (a b : ByteArray) (c1 c2 c3 c4 c5 d1 d2 d3 d4 d5 : Value) (W : World), Calls P f #[.agg #[.string a, c1, c2, c3, c4, c5], .agg #[.string b, d1, d2, d3, d4, d5]] W fun e w' => e = .returned (.int .i64 (Lib.compareBytes a.data.toList b.data.toList)) ∧ ∃ q os, w' = Sort.grow (W.drewN q) os)
    (L : List Mb) (hn : 0 < L.length) (h12 : L.length ≤ 12) (w : World) (lo : Nat) (X : BSet) (v : Value) (hd : Option Nat) (hX : ∀ b o, X b o → b ∉ blks hd) {E : TypeId} (hE : E = ρ.t 24) (hA : Arr w lo E 6 X (L.map Mb.d) v hd) :
    Calls P (ρ.f 20) #[v, .int .i64 0, .int .i64 L.length, .func (.func f) #[] #[]] w (RetA w hd fun u W => u = .tuple #[] ∧ Arr W lo E 6 X ((sortMb L).map Mb.d) v hd) := by
  obtain ⟨g, cap, rfl, rfl⟩ := arr_open hA (by simpa using hn)
  have hA' := hA
  obtain ⟨_, cs, hown, hrow⟩ := hA
  obtain ⟨l, hl, rfl⟩ := row_split L cs hrow
  have hll : l.length = L.length := by rw [← hl, List.length_map]
  obtain ⟨hlen, hown⟩ := hown
  rcases hown with ⟨h0, _⟩ | ⟨g', cap', cur, hs, hlo, hg, hnc, hcm, hcs, htake⟩
  · cases h0
  simp at hs
  obtain ⟨rfl, rfl⟩ := hs
  rw [List.length_map] at hnc htake hlen
  have hsz : l.length * 6 ≤ cur.size := by rw [hcs, hll]; exact Nat.mul_le_mul_right _ hnc
  have hblk : g < w.heap.size := (Array.getElem?_eq_some_iff.1 hg).1
  have hH : Sort.HoldsK MbC.enc 6 w g 0 l.toArray := by
    intro j hj
    simp only [Sort.size_flatK, List.size_toArray] at hj
    constructor
    · have h1 := Sort.get_flatK MbC.enc 6 l.toArray j (by simpa using hj)
      have h2 := flat_at l j hj
      rw [← htake, List.getElem?_take, if_pos (by omega), Array.getElem?_toList] at h2
      unfold World.cell?
      rw [hg]
      simp only [Nat.zero_add]
      rw [h2, h1]
      simp [Array.getElem!_eq_getD, Array.getD_eq_getD_getElem?]
    · simp [World.frozen?, hg]
  have hc := Proofs.AnyQ.insertionSortCmpFunc (α := MbC w X) Ly 6 aE zE MbC.enc MbC.len (fun x u hu => by rw [oneC_eq]; exact rdc_one _ _ x.ok u hu) (fun x y => cfM x.mb y.mb) f #[] g 0 cap 0 l.length l.toArray w ef (fun m os dk _ x y => by
      obtain ⟨cx, mx, hx⟩ := x
      obtain ⟨cy, my, hy⟩ := y
      obtain ⟨a1, c1, a2, c2, ex, _⟩ := rdMb_out (⟨cx, hx, rfl⟩ : Rd w X mx.d (asm mx.d cx))
      obtain ⟨a1', c1', a2', c2', ey, _⟩ := rdMb_out (⟨cy, hy, rfl⟩ : Rd w X my.d (asm my.d cy))
      have ex' : Value.agg cx.toArray = _ := ex
      have ey' : Value.agg cy.toArray = _ := ey
      show Calls P f (#[.agg cx.toArray, .agg cy.toArray] ++ #[]) _ _
      rw [ex', ey']
      exact hf _ _ _ _ _ _ _ _ _ _ _ _ _) hH hblk (Nat.zero_le _) (by simp) (by simp only [maxLen] at hcm; simp; omega)
  have he : Sort.insertionSort (Proofs.ltOf fun x y : MbC w X => cfM x.mb y.mb) l.toArray 0 l.length = outerF (Proofs.ltOf fun x y : MbC w X => cfM x.mb y.mb) (L.length - 1) 1 l.toArray := by
    unfold Sort.insertionSort
    exact insOuter_eq _ _ _ _ _ (by omega)
  rw [he] at hc
  obtain ⟨d', hd'⟩ : ∃ d', d' = outerF (Proofs.ltOf fun x y : MbC w X => cfM x.mb y.mb) (L.length - 1) 1 l.toArray := ⟨_, rfl⟩
  rw [← hd'] at hc
  have hds : d'.size = l.length := by rw [hd', outerF_size]; simp
  have hmap : d'.toList.map MbC.mb = sortMb L := by
    have := outerF_map (lt := Proofs.ltOf fun x y : MbC w X => cfM x.mb y.mb) (lt' := ltM) MbC.mb MbC.mbd (fun x y => rfl) (L.length - 1) 1 l.toArray
    rw [← hd'] at this
    have h2 : (d'.map MbC.mb).toList = _ := congrArg Array.toList this
    rw [Array.toList_map] at h2
    rw [h2, sortMb]
    congr 2
    rw [← hl]; simp
  have hcs' : ((#[Value.slice (some ⟨g, 0, none⟩) L.length cap, .int .i64 (0 : Nat), .int .i64 (l.length : Nat), .func (.func f) #[] #[]] : Array Value)) = #[.slice (some ⟨g, 0, none⟩) (L.map Mb.d).length cap, .int .i64 0, .int .i64 L.length, .func (.func f) #[] #[]] := by rw [hll]; simp
  have hc2 := hc
  rw [show l.toArray.size = L.length by simpa using hll] at hc2
  rw [hcs'] at hc2
  refine hc2.mono ?_
  rintro e W ⟨rfl, n, os, rfl⟩
  have hflat : (Sort.flatK MbC.enc 6 d').toList = (d'.toList.map MbC.enc).flatten := by
    have := flat_eq d'.toList
    simpa using this
  have hput : (Proofs.sortWorldK MbC.enc 6 w g 0 n d' os).heap[g]? = some (.cells (Sort.putCells id 0 (Sort.flatK MbC.enc 6 d') cur) E (0, 0)) := by
    unfold Proofs.sortWorldK Sort.putRowK Sort.putRow
    rw [Sort.heap_grow_old _ _ (by simpa [Sort.mapBlock, Sort.ahead] using hblk)]
    simp [Sort.mapBlock, Sort.ahead, Array.getElem?_modify, hg, Sort.onCells]
  have hoth : ∀ k, k < w.heap.size → k ≠ g → (Proofs.sortWorldK MbC.enc 6 w g 0 n d' os).heap[k]? = w.heap[k]? := fun k hk hne => by
    unfold Proofs.sortWorldK Sort.putRowK Sort.putRow
    rw [Sort.heap_grow_old _ _ (by simpa [Sort.mapBlock, Sort.ahead] using hk)]
    simp [Sort.mapBlock, Sort.ahead, Array.getElem?_modify, Ne.symm hne]
  have hsize : w.heap.size ≤ (Proofs.sortWorldK MbC.enc 6 w g 0 n d' os).heap.size := by
    unfold Proofs.sortWorldK
    rw [Sort.size_grow]
    simp [Sort.putRowK, Sort.putRow, Sort.mapBlock, Sort.ahead]
  refine ⟨_, rfl, ⟨rfl, rfl, rfl, hsize, fun k hk hs => hoth k hk (fun e => hs (by simp [blks, e]))⟩, rfl, rfl, (d'.toList.map MbC.enc).flatten, ⟨?_, .inr ⟨g, cap, _, ?_, hlo, hput, ?_, hcm, ?_, ?_⟩⟩, ?_⟩
  · rw [flat_len, List.length_map, sortMb_len]; simp [hds, hll]
  · rw [List.length_map, List.length_map, sortMb_len]
  · rw [List.length_map, sortMb_len]; exact hnc
  · simp [Sort.putCells, hcs]
  · rw [List.length_map, sortMb_len, ← hflat]
    apply List.ext_getElem?
    intro t
    rw [List.getElem?_take]
    split
    · rename_i ht
      have h1 : t < cur.size := by omega
      have h2 : t < (Sort.flatK MbC.enc 6 d').size := by simp [hds]; omega
      simp only [Sort.putCells, Array.getElem?_toList, Array.getElem?_mapIdx, Array.getElem?_eq_getElem h1, Option.map_some, Array.getElem?_eq_getElem h2]
      rw [if_pos ⟨Nat.zero_le _, by omega⟩, Nat.sub_zero, getElem!_pos _ t h2]
      rfl
    · rw [List.getElem?_eq_none]
      simp [hds]; omega
  · rw [← hmap]
    exact row_join hsize (fun b hb hlt => hoth b hlt (fun e => hX b _ hb (by simp [blks, e]))) _
section
variable {P : Program} {ops : Array Oper} {S : Nat → Prop} {w0 : World} {a0 : Act} {Γ : Ctx}
variable {d : Option Tmp} {ty : TypeId} {pos : String} {af : Array Edge} {gd : Option (Nat × Bool)}
variable {K : List Oper → Ctx → (World → Prop) → List Bool → Prop} {l : List Oper} {Ψ Ψ' : World → Prop} {ms : List Bool}
theorem Has.fn {f : FuncId} : Has S w0 a0 Γ (.func f) (Is (.func (.func f) #[] #[])) := fun _ _ _ _ _ _ => rfl
theorem sp_indexStrK {x y : Operand} {T : TypeId} {s : ByteArray} {k : IntKind} {j : Int} {i : Nat} (hT : P.underlying T = some .string) (hx : Has S w0 a0 Γ x (Is (.string s))) (hy : Has S w0 a0 Γ y (Is (.int k j))) (hj : j = i) (hi : i < s.size) :
    Spec P ops S w0 a0 Γ ⟨d, .index T x y, ty, pos, af, gd⟩ (Is (.int .u8 ((s[i]'hi).toNat : Nat))) := sp_val fun a g W hk hg he => by
  have e1 : a.eval x = .string s := hx.of_env hk hg he (by simp [Op.operands])
  have e2 : a.eval y = .int k j := hy.of_env hk hg he (by simp [Op.operands])
  subst hj
  have hs : s[(i : Int).toNat]? = some (s[i]'hi) := by simp [hi]
  have h0 : (0 : Int) ≤ (i : Int) := by omega
  simp [execOp, e1, e2, Instr.index, asIntOf, run_und hT, h0, hi]
theorem u8i64 (x : UInt8) : IntKind.i64.wrap ((x.toNat : Nat) : Int) = ((x.toNat : Nat) : Int) := i64_in (by have := UInt8.toNat_lt x; omega)
end
end Go.Eng
namespace Go.Proofs.Ytnobijngkpflcaa
open Go.Eng
set_option maxRecDepth 100000 in
set_option maxHeartbeats 1000000 in
theorem cmpStr_ok (a b : ByteArray) (w : World) : Calls Try.prog 144 #[.string a, .string b] w fun e w' => e = .returned (.int .i64 (Lib.compareBytes a.data.toList b.data.toList)) ∧ w' = w := by
  go_enter Try.func144, Try.ntmps144
  go_wp2
  rw [run_callFunc_extern Try.func163 (by kernel_rfl) (by kernel_rfl) (by kernel_rfl) (e := Extern.BytealgCompare.compare) (by kernel_rfl), Lib.run_compareString]
  simp only [Result.andThen]
  rw [Oper.upon_value]
  go_wp2
  go_ret
  exact ⟨rfl, rfl⟩
theorem compare_ok (a b : ByteArray) (w : World) : Calls Try.prog 97 #[.string a, .string b] w fun e w' => e = .returned (.int .i64 (Lib.compareBytes a.data.toList b.data.toList)) ∧ w' = w := by
  go_enter Try.func97, Try.ntmps97
  go_wp2_with (go_at_call 144; refine (cmpStr_ok _ _ _).mono ?_; rintro e w' ⟨rfl, rfl⟩)
  go_ret
  exact ⟨rfl, rfl⟩
theorem cmpMb_ok (a b : ByteArray) (c1 c2 c3 c4 c5 d1 d2 d3 d4 d5 : Value) (W : World) : Calls Try.prog 96 #[.agg #[.string a, c1, c2, c3, c4, c5], .agg #[.string b, d1, d2, d3, d4, d5]] W fun e w' => e = .returned (.int .i64 (Lib.compareBytes a.data.toList b.data.toList)) ∧ ∃ q os, w' = Sort.grow (W.drewN q) os := by
  have hcon := fun W' => compare_ok a b W'
  generalize Lib.compareBytes a.data.toList b.data.toList = r at hcon ⊢
  go_enter Try.func96, Try.ntmps96
  go_wp2_with (go_at_call 97; refine (hcon _).mono ?_; rintro e w' ⟨rfl, rfl⟩)
  go_ret
  exact ⟨rfl, 0, _, by rw [Sort.alloc_eq_grow, Sort.alloc_eq_grow, Sort.grow_grow]; rfl⟩
def renS : Shelf.Ren := ⟨fun x => if x = 20 then 153 else x, fun x => if x = 22 then 82 else if x = 24 then 67 else if x = 25 then 136 else x, fun x => x⟩
theorem bears20 : Bears Try.prog (renS.f 20) (SlBodyF.n20 renS) := ⟨_, by kernel_rfl, Try.func153⟩
theorem lays20 : SlLaysF0.n20 Try.prog renS := ⟨by kernel_rfl, bears20, Try.underlying0, Try.isAgg0, Try.sizeOf0, Try.zeroValue0, Try.underlying3, Try.isAgg3, Try.sizeOf3, Try.zeroValue3, Try.underlying4, Try.isAgg4, Try.sizeOf4, Try.zeroValue4, Try.underlying82, Try.isAgg82, Try.sizeOf82, Try.zeroValue82, Try.underlying136, Try.isAgg136, Try.sizeOf136, Try.zeroValue136⟩
theorem ins_ok (L : List Mb) (hn : 0 < L.length) (h12 : L.length ≤ 12) (w : World) (lo : Nat) (X : BSet) (v : Value) (hd : Option Nat) (hX : ∀ b o, X b o → b ∉ blks hd) (hA : Arr w lo 67 6 X (L.map Mb.d) v hd) :
    Calls Try.prog 153 #[v, .int .i64 0, .int .i64 L.length, .func (.func 96) #[] #[]] w (RetA w hd fun u W => u = .tuple #[] ∧ Arr W lo 67 6 X ((sortMb L).map Mb.d) v hd) :=
  ins_row lays20 Try.isAgg67 Try.sizeOf67 96 ent96 cmpMb_ok L hn h12 w lo X v hd hX rfl hA
theorem u8i (x : UInt8) : IntKind.i64.wrap ((0 : Int) + (((x.toNat : Nat) : Int) : Int)) = (0 : Int) + (((x.toNat : Nat) : Int) : Int) := i64_in (by have := UInt8.toNat_lt x; omega)
set_option maxRecDepth 100000 in
theorem len64_ok (n : Nat) (h : n ≤ 12) (w : World) : Calls Try.prog 162 #[.int .u64 n] w (Ret w fun u _ => ∃ l : Int, u = .int .i64 l) := by
 refine enter Try.func162 rfl Try.ntmps162 (lbr rfl) fun a0 y0 zz0 harg => ?_
 have e0 : sl a0 0 = (.int .u64 ((n : Nat))) := harg 0 (lbr rfl)
 have kw := Keeps.refl All w
 clear harg
 refine zq fun K1 hK1 => ?_
 refine rg mixed y0 zz0 ?_
 refine .ac ?_
 refine .dn fun a2 g W2 y2 zz2 hk hg hV hR hP => ?_
 obtain ⟨e2, -⟩ := hV
 replace e0 := ft hR e0
 replace e2 := e2.q
 replace kw := kw.x hk
 clear hR hk hg hP
 refine zn (hK1 _ _ ?_)
 refine zq fun K3 hK3 => ?_
 refine zq fun K4 hK4 => ?_
 refine rg mixed y2 zz2 ?_
 refine .mb rfl e0 ?_
 refine .i (sp_geq (hlc rfl) Has.cst) ?_
 refine .dn fun a5 g W5 y5 zz5 hk hg hV hR hP => ?_
 obtain ⟨e4, -, -⟩ := hV
 replace e0 := ft hR e0
 replace e2 := ft hR e2
 replace e4 := e4.q
 replace kw := kw.x hk
 clear hR hk hg hP
 refine zn (hK4 _ _ ?_)
 refine zc e4 (fun hc => ?_) (fun hc => ?_)
 ·
  exfalso
  have := of_decide_eq_true hc
  omega
 refine wp_skip (hK3 _ _ ?_)
 refine zq fun K6 hK6 => ?_
 refine zq fun K7 hK7 => ?_
 refine rg mixed y5 zz5 ?_
 refine .mb rfl e0 ?_
 refine .i (sp_geq (hlc rfl) Has.cst) ?_
 refine .dn fun a8 g W8 y8 zz8 hk hg hV hR hP => ?_
 obtain ⟨e8, -, -⟩ := hV
 replace e0 := ft hR e0
 replace e2 := ft hR e2
 replace e8 := e8.q
 replace kw := kw.x hk
 clear hR hk hg hP
 refine zn (hK7 _ _ ?_)
 refine zc e8 (fun hc => ?_) (fun hc => ?_)
 ·
  exfalso
  have := of_decide_eq_true hc
  omega
 refine wp_skip (hK6 _ _ ?_)
 refine zq fun K9 hK9 => ?_
 refine zq fun K10 hK10 => ?_
 refine rg mixed y8 zz8 ?_
 refine .mb rfl e0 ?_
 refine .i (sp_geq (hlc rfl) Has.cst) ?_
 refine .dn fun a11 g W11 y11 zz11 hk hg hV hR hP => ?_
 obtain ⟨e14, -, -⟩ := hV
 replace e0 := ft hR e0
 replace e2 := ft hR e2
 replace e14 := e14.q
 replace kw := kw.x hk
 clear hR hk hg hP
 refine zn (hK10 _ _ ?_)
 refine zc e14 (fun hc => ?_) (fun hc => ?_)
 ·
  exfalso
  have := of_decide_eq_true hc
  omega
 refine wp_skip (hK9 _ _ ?_)
 refine zq fun K12 hK12 => ?_
 refine rg mixed y11 zz11 ?_
 refine .mb rfl e2 ?_
 refine .mb rfl e0 ?_
 refine .i (v := (.int .u8 ((n : Nat)))) (sp_conv Try.underlying200 Try.underlying5 (hlc rfl) (u8_in (by omega))) ?_
 refine .i (v := (.int .u8 ((((⟨#[0, 1, 2, 2, 3, 3, 3, 3, 4, 4, 4, 4, 4, 4, 4, 4, 5, 5, 5, 5, 5, 5, 5, 5, 5, 5, 5, 5, 5, 5, 5, 5, 6, 6, 6, 6, 6, 6, 6, 6, 6, 6, 6, 6, 6, 6, 6, 6, 6, 6, 6, 6, 6, 6, 6, 6, 6, 6, 6, 6, 6, 6, 6, 6, 7, 7, 7, 7, 7, 7, 7, 7, 7, 7, 7, 7, 7, 7, 7, 7, 7, 7, 7, 7, 7, 7, 7, 7, 7, 7, 7, 7, 7, 7, 7, 7, 7, 7, 7, 7, 7, 7, 7, 7, 7, 7, 7, 7, 7, 7, 7, 7, 7, 7, 7, 7, 7, 7, 7, 7, 7, 7, 7, 7, 7, 7, 7, 7, 8, 8, 8, 8, 8, 8, 8, 8, 8, 8, 8, 8, 8, 8, 8, 8, 8, 8, 8, 8, 8, 8, 8, 8, 8, 8, 8, 8, 8, 8, 8, 8, 8, 8, 8, 8, 8, 8, 8, 8, 8, 8, 8, 8, 8, 8, 8, 8, 8, 8, 8, 8, 8, 8, 8, 8, 8, 8, 8, 8, 8, 8, 8, 8, 8, 8, 8, 8, 8, 8, 8, 8, 8, 8, 8, 8, 8, 8, 8, 8, 8, 8, 8, 8, 8, 8, 8, 8, 8, 8, 8, 8, 8, 8, 8, 8, 8, 8, 8, 8, 8, 8, 8, 8, 8, 8, 8, 8, 8, 8, 8, 8, 8, 8, 8, 8, 8, 8, 8, 8, 8, 8, 8, 8, 8, 8, 8, 8]⟩ : ByteArray)[n]'(Nat.lt_of_le_of_lt h (lbr rfl))).toNat : Nat)))) (sp_indexStrK (i := n) Try.underlying9 Has.cst (hlc rfl) rfl (Nat.lt_of_le_of_lt h (lbr rfl))) ?_
 refine .i (v := (.int .i64 ((((⟨#[0, 1, 2, 2, 3, 3, 3, 3, 4, 4, 4, 4, 4, 4, 4, 4, 5, 5, 5, 5, 5, 5, 5, 5, 5, 5, 5, 5, 5, 5, 5, 5, 6, 6, 6, 6, 6, 6, 6, 6, 6, 6, 6, 6, 6, 6, 6, 6, 6, 6, 6, 6, 6, 6, 6, 6, 6, 6, 6, 6, 6, 6, 6, 6, 7, 7, 7, 7, 7, 7, 7, 7, 7, 7, 7, 7, 7, 7, 7, 7, 7, 7, 7, 7, 7, 7, 7, 7, 7, 7, 7, 7, 7, 7, 7, 7, 7, 7, 7, 7, 7, 7, 7, 7, 7, 7, 7, 7, 7, 7, 7, 7, 7, 7, 7, 7, 7, 7, 7, 7, 7, 7, 7, 7, 7, 7, 7, 7, 8, 8, 8, 8, 8, 8, 8, 8, 8, 8, 8, 8, 8, 8, 8, 8, 8, 8, 8, 8, 8, 8, 8, 8, 8, 8, 8, 8, 8, 8, 8, 8, 8, 8, 8, 8, 8, 8, 8, 8, 8, 8, 8, 8, 8, 8, 8, 8, 8, 8, 8, 8, 8, 8, 8, 8, 8, 8, 8, 8, 8, 8, 8, 8, 8, 8, 8, 8, 8, 8, 8, 8, 8, 8, 8, 8, 8, 8, 8, 8, 8, 8, 8, 8, 8, 8, 8, 8, 8, 8, 8, 8, 8, 8, 8, 8, 8, 8, 8, 8, 8, 8, 8, 8, 8, 8, 8, 8, 8, 8, 8, 8, 8, 8, 8, 8, 8, 8, 8, 8, 8, 8, 8, 8, 8, 8, 8, 8]⟩ : ByteArray)[n]'(Nat.lt_of_le_of_lt h (lbr rfl))).toNat : Nat)))) (sp_conv Try.underlying5 Try.underlying3 (hlc rfl) (u8i64 _)) ?_
 refine .i (sp_add (hlc rfl) (hlc rfl) (u8i _)) ?_
 refine .al rfl ?_
 refine .dn fun a13 g W13 y13 zz13 hk hg hV hR hP => ?_
 obtain ⟨e2, -, -, -, -, -, -, -⟩ := hV
 replace e2 := e2.q
 replace kw := kw.x hk
 clear hR hk hg hP
 refine zn (hK12 _ _ ?_)
 refine wp_ret ?_
 refine ret1 rfl zz13 e2 ⟨_, rfl, kw, ?_⟩
 exact ⟨_, rfl⟩
theorem len_ok (n : Nat) (h : n ≤ 12) (w : World) : Calls Try.prog 143 #[.int .u64 n] w (Ret w fun u _ => ∃ l : Int, u = .int .i64 l) := by
  have hcon := fun W => len64_ok n h W
  go_enter Try.func143, Try.ntmps143
  go_wp2_with (go_at_call 162; refine (hcon _).mono ?_; rintro e w' ⟨u, rfl, hk, l, rfl⟩)
  go_ret
  exact ⟨_, rfl, hk, _, rfl⟩
set_option maxHeartbeats 1000000 in
theorem pdq_ok (L : List Mb) (hn : 0 < L.length) (h12 : L.length ≤ 12) (lim : Int) (w : World) (lo : Nat) (X : BSet) (v : Value) (hd : Option Nat) (hX : ∀ b o, X b o → b ∉ blks hd) (hA : Arr w lo 67 6 X (L.map Mb.d) v hd) :
    Calls Try.prog 142 #[v, .int .i64 0, .int .i64 L.length, .int .i64 lim, .func (.func 96) #[] #[]] w (RetA w hd fun u W => u = .tuple #[] ∧ Arr W lo 67 6 X ((sortMb L).map Mb.d) v hd) := by
  have hc := ins_ok L hn h12 w lo X v hd hX hA
  have h1 : (L.length : Int) ≤ 12 := by omega
  go_enter Try.func142, Try.ntmps142
  go_wp2
  refine wp_loopAt (loopAt ?_)
  go_wp2_with (go_at_call 153; refine hc.mono ?_; rintro e w' ⟨u, rfl, hk, rfl, hA2⟩)
  go_end0
  exact ⟨_, rfl, hk, rfl, hA2⟩
set_option maxHeartbeats 1000000 in
theorem sort_ok (L : List Mb) (hn : 0 < L.length) (h12 : L.length ≤ 12) (w : World) (lo : Nat) (X : BSet) (v : Value) (hd : Option Nat) (hX : ∀ b o, X b o → b ∉ blks hd) (hA : Arr w lo 67 6 X (L.map Mb.d) v hd) :
    Calls Try.prog 95 #[v, .func (.func 96) #[] #[]] w (RetA w hd fun u W => u = .tuple #[] ∧ Arr W lo 67 6 X ((sortMb L).map Mb.d) v hd) := by
  have hc := fun lim W (k : Ext w W) => pdq_ok L hn h12 lim W lo X v hd hX (hA.ext k)
  have hl := fun W => len_ok L.length h12 W
  obtain ⟨g, cap, rfl, rfl⟩ := arr_open hA (by simpa using hn)
  rw [List.length_map] at hc ⊢
  have hw : IntKind.u64.wrap (L.length : Int) = L.length := u64_in (by omega)
  go_enter Try.func95, Try.ntmps95
  go_wp2_with fail
  refine (hl _).mono ?_
  rintro e w' ⟨u, rfl, hk, l, rfl⟩
  go_wp2_with fail
  refine (hc _ _ hk).mono ?_
  rintro e w' ⟨u, rfl, hk2, rfl, hA2⟩
  go_wp2
  go_end0
  exact ⟨_, rfl, (Keeps.of_ext hk).trans hk2, rfl, hA2⟩
end Go.Proofs.Ytnobijngkpflcaa
namespace Go.Eng
theorem Arr.lo {W : World} {lo lo' : Nat} {e : TypeId} {sz : Nat} {X : BSet} {ds : List D} {v : Value} {hd : Option Nat} (h : Arr W lo e sz X ds v hd) (hl : lo' ≤ lo) : Arr W lo' e sz X ds v hd := by
  obtain ⟨h1, cs, ⟨h2, h3⟩, h4⟩ := h
  exact ⟨h1, cs, ⟨h2, h3.imp id fun ⟨g, cap, cur, a, b, c⟩ => ⟨g, cap, cur, a, Nat.le_trans hl b, c⟩⟩, h4⟩
section
variable {S0 S1 : Nat → Prop} {w w0 W W' : World} {S : BSet} {M : List Nat} {g : Gh} {e : TypeId} {sz : Nat} {ds : List D} {u : Value}
theorem arr_arA (kw : Keeps S0 w w0) (hM : ∀ b ∈ M, b < w0.heap.size) (hk : Keeps S1 w0 W) (h : ∃ hd, Arr W' W.heap.size e sz (fun b o => Ar W (fun b o => SA w S M b o ∧ Out g b) b o ∧ b ∉ blks hd) ds u hd) : IsArr w0 w.heap.size e sz (SA w S M) ds none g u W' := by
  obtain ⟨hd, h⟩ := h
  refine ⟨hd, (h.lo (Nat.le_trans kw.size hk.size)).mono fun b o hb hlt => ⟨?_, hb.2⟩, fun b hb => .inr (Nat.le_trans hk.size (h.ge b hb))⟩
  by_cases hb' : b < W.heap.size
  · exact (hb.1.1 hb').1
  · have h1 := kw.size
    have h2 := hk.size
    exact ⟨fun h => by omega, fun _ => hb.1.2 (by omega), fun hm => by have := hM b hm; omega⟩
theorem arr_sa_ar {hd : Option Nat} {v : Value} (h : Arr W w.heap.size e sz (SA w S (blks hd ++ [])) ds v hd) : ∃ hd, Arr W w.heap.size e sz (fun b o => Ar w S b o ∧ b ∉ blks hd) ds v hd :=
  ⟨hd, h.mono fun b o hb _ => ⟨⟨hb.1, hb.2.1⟩, fun hm => hb.2.2 (by simpa using hm)⟩⟩
end
def adj : List Mb → Bool
  | a :: b :: r => decide (a.nm = b.nm) || adj (b :: r)
  | _ => false
theorem adj_true : ∀ (L : List Mb) (i : Nat) (h : i + 1 < L.length), L[i].nm = L[i + 1].nm → adj L = true
  | [], i, h, _ => by simp at h
  | [a], i, h, _ => by simp at h
  | a :: b :: r, 0, _, he => by simp at he; simp [adj, he]
  | a :: b :: r, i + 1, h, he => by
    have := adj_true (b :: r) i (by simpa using h) (by simpa using he)
    simp [adj, this]
theorem adj_false : ∀ (L : List Mb), (∀ i (h : i + 1 < L.length), L[i].nm ≠ L[i + 1].nm) → adj L = false
  | [], _ => rfl
  | [a], _ => rfl
  | a :: b :: r, h => by
    have h0 := h 0 (by simp)
    have := adj_false (b :: r) fun i hi => h (i + 1) (by simpa using hi)
    simp at h0
    simp [adj, h0, this]
def objE (L : List Mb) : Int := if adj (sortMb L) then 7 else 0
def objM (L : List Mb) : V := if adj (sortMb L) then ⟨0, 0, ⟨#[]⟩, [], []⟩ else ⟨5, 0, ⟨#[]⟩, (sortMb L).map Mb.nm, (sortMb L).map Mb.v⟩
theorem all_set {α : Type} {p : α → Prop} (d : Array α) (i : Nat) (x : α) (h : ∀ y ∈ d, p y) (hx : p x) : ∀ y ∈ d.setIfInBounds i x, p y := fun y hy => by
  rw [← Array.mem_toList_iff, Array.toList_setIfInBounds] at hy
  rcases List.mem_or_eq_of_mem_set hy with h1 | h1
  · exact h y (by rwa [Array.mem_toList_iff] at h1)
  · exact h1 ▸ hx
theorem insInner_all {α : Type} [Inhabited α] {p : α → Prop} (lt : α → α → Bool) : ∀ (j : Nat) (d : Array α), j < d.size → (∀ y ∈ d, p y) → ∀ y ∈ Sort.insInner lt 0 j d, p y
  | 0, d, _, h => h
  | j + 1, d, hj, h => by
    rw [Sort.insInner]
    split
    · refine insInner_all lt j _ (by simp [Sort.swp]; omega) ?_
      have g : ∀ i, i < d.size → p d[i]! := fun i hi => by rw [getElem!_pos d i hi]; exact h _ (Array.getElem_mem hi)
      exact all_set _ _ _ (all_set _ _ _ h (g j (by omega))) (g (j + 1) hj)
    · exact h
theorem outerF_all {α : Type} [Inhabited α] {p : α → Prop} (lt : α → α → Bool) : ∀ (f i : Nat) (d : Array α), i + f ≤ d.size → (∀ y ∈ d, p y) → ∀ y ∈ outerF lt f i d, p y
  | 0, _, d, _, h => h
  | f + 1, i, d, hi, h => by
    rw [outerF]
    exact outerF_all lt f (i + 1) _ (by rw [insInner_size]; omega) (insInner_all lt i d (by omega) h)
theorem sortMb_all {p : Mb → Prop} (L : List Mb) (h : ∀ m ∈ L, p m) : ∀ m ∈ sortMb L, p m := by
  cases L with
  | nil => intro m hm; simp [sortMb, outerF] at hm
  | cons x xs =>
    intro m hm
    unfold sortMb at hm
    rw [Array.mem_toList_iff] at hm
    exact outerF_all ltM _ _ _ (by simp; omega) (fun y hy => h y (by simpa using hy)) m hm
end Go.Eng
namespace Go.Proofs.Ytnobijngkpflcaa
open Go.Eng
set_option maxRecDepth 100000 in
theorem cloneM_ok (L : List Mb) (hn : L.length ≤ 1073741824) (w : World) (S : BSet) (v : Value) (hv : Rd w S (mbsD L) v) : Calls Try.prog 94 #[v] w (Ret w fun u W => ∃ hd, Arr W w.heap.size 67 6 (fun b o => Ar w S b o ∧ b ∉ blks hd) (L.map Mb.d) u hd) := by
 obtain ⟨va, vc, ev, D_v⟩ := rdMbs_out (rd_arg hv)
 subst ev
 refine enter Try.func94 rfl Try.ntmps94 (lbr rfl) fun a0 y0 zz0 harg => ?_
 have e0 : sl a0 0 = (.slice va (L.length) vc) := harg 0 (lbr rfl)
 have kw := Keeps.refl All w
 clear harg
 refine zq fun K1 hK1 => ?_
 refine rg mixed y0 zz0 ?_
 refine .ac ?_
 refine .dn fun a2 g W2 y2 zz2 hk hg hV hR hP => ?_
 obtain ⟨-, -⟩ := hV
 replace e0 := ft hR e0
 replace D_v := D_v.ext hk
 replace kw := kw.x hk
 clear hR hk hg hP
 refine zn (hK1 _ _ ?_)
 refine zq fun K3 hK3 => ?_
 refine zq fun K4 hK4 => ?_
 refine rg mixed y2 zz2 ?_
 refine .mb rfl e0 ?_
 refine .i (v := (.bool (va.isNone))) (sp_slNil Try.underlying82 (hlc rfl) Has.cst) ?_
 refine .dn fun a5 g W5 y5 zz5 hk hg hV hR hP => ?_
 obtain ⟨e4, -, -⟩ := hV
 replace e0 := ft hR e0
 replace D_v := D_v.ext hk
 replace e4 := e4.q
 replace kw := kw.x hk
 clear hR hk hg hP
 refine zn (hK4 _ _ ?_)
 refine zc e4 (fun hc => ?_) (fun hc => ?_)
 ·
  have hns : L = [] := by simpa using rd_none (ds := L.map Mb.d) D_v hc
  subst hns
  refine zq fun K6 hK6 => ?_
  refine rg mixed y5 zz5 ?_
  refine .ac ?_
  refine .dn fun a7 g W7 y7 zz7 hk hg hV hR hP => ?_
  obtain ⟨e2, -⟩ := hV
  replace D_v := D_v.ext hk
  replace e2 := e2.q
  replace kw := kw.x hk
  clear hR hk hg hP
  refine zn (hK6 _ _ ?_)
  refine wp_ret ?_
  refine ret1 rfl zz7 e2 ⟨_, rfl, kw, ?_⟩
  exact ⟨none, arr_nil _ _ _ _ _⟩
 refine wp_skip (hK3 _ _ ?_)
 refine zq fun K8 hK8 => ?_
 refine rg mixed y5 zz5 ?_
 refine .op (φ := IsArr W5 w.heap.size 67 6 (SA w S []) ([]) none) st_arr (sp_bslA Try.underlying82 sz67 kw.size) ?_
 refine .dn fun a9 g W9 y9 zz9 hk hg hV hR hP => ?_
 obtain ⟨e5, -⟩ := hV
 replace e0 := ft hR e0
 obtain ⟨v5_9, ev⟩ : ∃ v, sl a9 5 = v := ⟨_, rfl⟩
 rw [ev] at e5
 obtain ⟨hd5_9, A_5_9, hf5_9⟩ := e5
 have e5 := ev; clear ev
 replace hf5_9 := row_new hf5_9
 obtain ⟨v5_9a, v5_9n, v5_9c, ev⟩ := arr_sl A_5_9; subst ev
 replace A_5_9 : Arr W9 w.heap.size 67 6 (SA w S (blks hd5_9 ++ [])) (List.map Mb.d ([])) (.slice v5_9a v5_9n v5_9c) hd5_9 := arrA_new A_5_9 (M' := (blks hd5_9 ++ [])) (fun b hb => (List.mem_append.1 hb).symm)
 replace D_v : Rd W9 (SA w S (blks hd5_9 ++ [])) (mbsD (L)) (.slice va (L.length) vc) := sa_more D_v hk (blks hd5_9) hf5_9
 replace kw := kw.x hk
 clear hR hk hg hP hf5_9
 refine tail_reg 2 (fun k => k ∉ blks hd5_9) (Ψ := fun W => Arr W w.heap.size 67 6 (SA w S (blks hd5_9 ++ [])) (List.map Mb.d ([])) (.slice v5_9a v5_9n v5_9c) hd5_9) y9 zz9 (fun W W' k h => h.ext k) A_5_9 rfl ?_
 refine .mb rfl e0 ?_
 refine .appB (ds := List.map Mb.d ([])) (es := List.map Mb.d (L)) (X := SA w S (blks hd5_9 ++ [])) Try.underlying82 inf67 (lbr rfl) (hbs rfl e5) ((hlc rfl).dat D_v (sub_nb (fun b hb => List.mem_append_left _ hb))) (sub_nb (fun b hb => List.mem_append_left _ hb)) (by simp [maxLen]; omega) (by simp; omega) kw.size ?_
 refine .dn fun a10 g W10 y10 zz10 hk hg hV hR hP => ?_
 refine tail_nil ?_
 show runTail _ _ _ _ _ _
 obtain ⟨e7, -, -⟩ := hV
 obtain ⟨v7_10, ev⟩ : ∃ v, sl a10 7 = v := ⟨_, rfl⟩
 rw [ev] at e7
 obtain ⟨hd7_10, A_7_10, hf7_10⟩ := e7
 have e7 := ev; clear ev
 obtain ⟨v7_10a, v7_10n, v7_10c, ev⟩ := arr_sl A_7_10; subst ev
 replace A_7_10 := arrA_new (M' := (blks hd7_10 ++ [])) A_7_10 (rep_app (rep_q fun _ h => h) rep_nil)
 replace A_7_10 : Arr W10 w.heap.size 67 6 (SA w S (blks hd7_10 ++ [])) (List.map Mb.d (L)) (.slice v7_10a v7_10n v7_10c) hd7_10 := by first | exact A_7_10 | (rw [List.map_append]; exact A_7_10)
 replace D_v := sa_app (M' := (blks hd7_10 ++ [])) D_v hk (fun b hb => List.mem_append_left _ hb) (rep_app hf7_10 rep_nil)
 replace kw := keeps_app kw hk A_5_9.ge
 clear hR hk hg hP hf7_10 A_5_9
 refine tail_assign (v := (.slice v7_10a v7_10n v7_10c)) e7 (by rw [y10]; exact Nat.le_of_ble_eq_true rfl) (fun a11 y11 zz11 e2 hr => ?_)
 replace y11 := y11.trans y10; replace zz11 := zz11.trans zz10
 replace e7 := (hr 7 (by decide)).trans e7
 clear hr
 refine zn (hK8 _ _ ?_)
 refine wp_ret ?_
 refine ret1 rfl zz11 e2 ⟨_, rfl, kw, ?_⟩
 exact arr_sa_ar A_7_10
set_option maxRecDepth 100000 in
theorem ObjectOf_ok (L : List Mb) (hn : 0 < L.length) (h12 : L.length ≤ 12) (hw : ∀ m ∈ L, m.v.wt ≤ 1073741824) (w : World) (S : BSet) (v : Value) (hS : ∀ b o, S b o → Cln o) (hv : Rd w S (mbsD L) v) : Calls Try.prog 38 #[v] w (Ret w fun r W => ∃ r1, r = .tuple #[r1, .int .i64 (objE L)] ∧ Rd W (Fr w) (objM L).d r1) := by
 have hsl := sortMb_len L
 have hwS := sortMb_all L hw
 obtain ⟨va, vc, ev, D_v⟩ := rdMbs_out (rd_arg hv)
 subst ev
 refine enter Try.func38 rfl Try.ntmps38 (lbr rfl) fun a0 y0 zz0 harg => ?_
 have e0 : sl a0 0 = (.slice va (L.length) vc) := harg 0 (lbr rfl)
 have kw := Keeps.refl All w
 clear harg
 refine zq fun K1 hK1 => ?_
 refine rg mixed y0 zz0 ?_
 refine .alloc z33 ?_
 refine .ac ?_
 refine .dn fun a2 g W2 y2 zz2 hk hg hV hR hP => ?_
 obtain ⟨-, ⟨b2_2, e2, hb2, own_b2_2⟩, -⟩ := hV
 have lo_b2_2 : w.heap.size ≤ b2_2 := Nat.le_trans kw.size (hg.lo _ _ hb2)
 have own_b2_2 : Own W2 b2_2 z5C 33 := own_b2_2
 replace e0 := ft hR e0
 replace D_v := sa_more D_v hk [b2_2] (in_cons (hg.lo _ _ hb2) in_nil)
 replace kw := kw.x hk
 clear hR hk hg hP hb2
 refine zn (hK1 _ _ ?_)
 refine zq fun K3 hK3 => ?_
 refine rg mixed y2 zz2 ?_
 refine .mb rfl e0 ?_
 refine .op (φ := IsArr W2 w.heap.size 67 6 (SA w S [b2_2]) (List.map Mb.d (L)) none) st_arr (sp_call1 (φ1 := IsD (SA w S [b2_2]) (mbsD (L))) ent94 ((hlc rfl).dat D_v sub_all) (fun g u1 W hk hgk h1 => (cloneM_ok (L) (by omega) W _ _ h1).mono (fun _ _ ⟨v, h1, h2, h3⟩ => ⟨v, h1, h2, arr_arA kw (in_cons own_b2_2.lt in_nil) hk h3⟩))) ?_
 refine .dn fun a4 g W4 y4 zz4 hk hg hV hR hP => ?_
 obtain ⟨e9, -, -⟩ := hV
 replace e2 := ft hR e2
 obtain ⟨v9_4, ev⟩ : ∃ v, sl a4 9 = v := ⟨_, rfl⟩
 rw [ev] at e9
 obtain ⟨hd9_4, A_9_4, hf9_4⟩ := e9
 have e9 := ev; clear ev
 replace hf9_4 := row_new hf9_4
 obtain ⟨v9_4a, v9_4n, v9_4c, ev⟩ := arr_sl A_9_4; subst ev
 replace A_9_4 : Arr W4 w.heap.size 67 6 (SA w S (blks hd9_4 ++ (b2_2 :: []))) (List.map Mb.d (L)) (.slice v9_4a v9_4n v9_4c) hd9_4 := arrA_new A_9_4 (M' := (blks hd9_4 ++ (b2_2 :: []))) (fun b hb => (List.mem_append.1 hb).symm)
 have nb_b2_2_4 : b2_2 ∉ blks hd9_4 := fun hm => absurd (hf9_4 _ hm) (Nat.not_le.2 own_b2_2.lt)
 replace D_v : Rd W4 (SA w S (blks hd9_4 ++ (b2_2 :: []))) (mbsD (L)) (.slice va (L.length) vc) := sa_more D_v hk (blks hd9_4) hf9_4
 replace own_b2_2 := own_b2_2.ext hk
 replace kw := kw.x hk
 clear hR hk hg hP hf9_4
 refine tail_assign (v := (.slice v9_4a v9_4n v9_4c)) e9 (by rw [y4]; exact Nat.le_of_ble_eq_true rfl) (fun a5 y5 zz5 e4 hr => ?_)
 replace y5 := y5.trans y4; replace zz5 := zz5.trans zz4
 replace e2 := (hr 2 (by decide)).trans e2
 replace e9 := (hr 9 (by decide)).trans e9
 clear hr
 refine zn (hK3 _ _ ?_)
 refine zq fun K6 hK6 => ?_
 refine wp_reg (fun k => k ∉ blks hd9_4) (Ψ := fun W => Arr W w.heap.size 67 6 (SA w S (blks hd9_4 ++ (b2_2 :: []))) (List.map Mb.d (L)) (.slice v9_4a v9_4n v9_4c) hd9_4) mixed y5 zz5 (fun W W' k h => h.ext k) A_9_4 ?_
 refine .mb rfl e4 ?_
 refine .callL2 (φ1 := Is (.slice v9_4a v9_4n v9_4c)) (φ2 := Is (.func (.func 96) #[] #[])) (φ := Is (.tuple #[])) (Ψ' := fun W => Arr W w.heap.size 67 6 (SA w S (blks hd9_4 ++ (b2_2 :: []))) (List.map Mb.d (sortMb L)) (.slice v9_4a v9_4n v9_4c) hd9_4) ent95 (hlc rfl) Has.fn (st_is _) (fun W W' k h => h.ext k) (fun g u1 u2 W hk hg h1 h2 hP => by have h1 : u1 = _ := h1; subst u1; have h2 : u2 = _ := h2; subst u2; exact sort_ok (L) hn h12 W _ _ _ _ (sub_nb (fun b hb => List.mem_append_left _ hb)) hP) ?_
 refine .dn fun a7 g W7 y7 zz7 hk hg hV hR hP => ?_
 obtain ⟨-, -, -⟩ := hV
 replace e2 := ft hR e2
 replace e4 := ft hR e4
 replace own_b2_2 := own_keepL own_b2_2 hk nb_b2_2_4
 replace kw := keeps_app kw hk A_9_4.ge
 have A_w7 : Arr W7 w.heap.size 67 6 (SA w S (blks hd9_4 ++ (b2_2 :: []))) (List.map Mb.d (sortMb L)) (.slice v9_4a v9_4n v9_4c) hd9_4 := hP
 clear hR hk hg hP A_9_4
 have D_v9_4 : Rd W7 (SA w S [b2_2]) (mbsD (sortMb L)) (.slice v9_4a v9_4n v9_4c) := arrA_rd A_w7 (ls_skipA (ls_keep ls_nil)) (nin_cons nb_b2_2_4 nin_nil)
 obtain ⟨xa, xc, ev, D2⟩ := rdMbs_out D_v9_4
 injection ev with h1 h2 h3; subst h1 h2 h3; replace D_v9_4 := D2; clear D2
 refine zn (hK6 _ _ ?_)
 refine zq fun K8 hK8 => ?_
 refine rg mixed y7 zz7 ?_
 refine .i (v := (.agg #[(.int .u8 (5)), (.int .i64 (0)), (.string (⟨#[]⟩)), (.slice none 0 0), (.slice none 0 0)])) (sp_build (vs := [(0, (.int .u8 (5)))]) Try.underlying33 z33 (pl33 Try.underlying33) ⟨rfl, Has.cst, trivial⟩ rfl) ?_
 refine .alloc z33 ?_
 refine .dn fun a9 g W9 y9 zz9 hk hg hV hR hP => ?_
 obtain ⟨⟨b5_9, e5, hb5, own_b5_9⟩, e12, -⟩ := hV
 have lo_b5_9 : w.heap.size ≤ b5_9 := Nat.le_trans kw.size (hg.lo _ _ hb5)
 have ne_b2_2_b5_9 : b2_2 ≠ b5_9 := Nat.ne_of_lt (Nat.lt_of_lt_of_le own_b2_2.lt (hg.lo _ _ hb5))
 have own_b5_9 : Own W9 b5_9 z5C 33 := own_b5_9
 replace e2 := ft hR e2
 replace e4 := ft hR e4
 replace D_v9_4 := sa_more D_v9_4 hk [b5_9] (in_cons (hg.lo _ _ hb5) in_nil)
 replace e12 := e12.q
 replace own_b2_2 := own_b2_2.ext hk
 replace kw := kw.x hk
 clear hR hk hg hP hb5
 refine tail_store e5 e12 sz33 rfl own_b5_9 (lbr rfl) (all_cons rfl (all_cons rfl (all_cons rfl (all_cons rfl (all_cons rfl all_nil))))) (fun W10 hs own_b5_9 => ?_)
 have own_b5_9 : Own W10 b5_9 [(.int .u8 (5)), (.int .i64 (0)), (.string (⟨#[]⟩)), (.slice none 0 0), (.slice none 0 0)] 33 := own_b5_9
 replace own_b2_2 := own_store own_b2_2 hs ne_b2_2_b5_9
 replace D_v9_4 := sa_store D_v9_4 hs (by simp)
 replace kw := keeps_store kw hs lo_b5_9
 clear hs
 refine zn (hK8 _ _ ?_)
 refine zq fun K11 hK11 => ?_
 refine zq fun K12 hK12 => ?_
 refine rg mixed y9 zz9 ?_
 refine .mb rfl e4 ?_
 refine .i (sp_lenL Try.underlying82 ((hlc rfl).dat D_v9_4 sub_all)) ?_
 refine .i (sp_move Has.cst) ?_
 refine .dn fun a13 g W13 y13 zz13 hk hg hV hR hP => ?_
 obtain ⟨e15, e14, e13, -⟩ := hV
 replace e2 := ft hR e2
 replace e4 := ft hR e4
 replace e5 := ft hR e5
 replace D_v9_4 := D_v9_4.ext hk
 replace e13 := e13.q
 replace e14 := e14.q
 replace e15 := e15.q
 replace own_b2_2 := own_b2_2.ext hk
 replace own_b5_9 := own_b5_9.ext hk
 replace kw := kw.x hk
 clear hR hk hg hP
 refine zn (hK12 _ _ ?_)
 refine wp_block ?_
 have A_ar14 : Arr W13 w.heap.size 9 1 (SF w (blks none ++ (b5_9 :: (b2_2 :: [])))) (List.map D.str ([])) (.slice none 0 0) none := arr_nil _ _ _ _ _
 replace D_v9_4 : Rd W13 (SA w S (blks none ++ (b5_9 :: (b2_2 :: [])))) (mbsD (sortMb L)) (.slice v9_4a ((sortMb L).length) v9_4c) := D_v9_4
 have A_ar15 : Arr W13 w.heap.size 33 5 (SF w (blks (none) ++ (blks none ++ (b5_9 :: (b2_2 :: []))))) (List.map V.d ([])) (.slice none 0 0) (none) := arr_nil _ _ _ _ _
 replace D_v9_4 : Rd W13 (SA w S (blks (none) ++ (blks none ++ (b5_9 :: (b2_2 :: []))))) (mbsD (sortMb L)) (.slice v9_4a ((sortMb L).length) v9_4c) := D_v9_4
 replace A_ar14 : Arr W13 w.heap.size 9 1 (SF w (blks (none) ++ (blks none ++ (b5_9 :: (b2_2 :: []))))) (List.map D.str ([])) (.slice none 0 0) none := A_ar14
 refine wp_for ((sortMb L).length) (fun k a W => ∃ (va3_16 : Value), ∃ (hd3_16 : Option Nat), ∃ (va4_16 : Value), ∃ (hd4_16 : Option Nat), a.tmps.size = 51 ∧ a.defers = [] ∧ Keeps All w W ∧ sl a 2 = (.pointer (some ⟨b2_2, 0, none⟩)) ∧ sl a 4 = (.slice v9_4a ((sortMb L).length) v9_4c) ∧ sl a 5 = (.pointer (some ⟨b5_9, 0, none⟩)) ∧ sl a 13 = (.slice v9_4a ((sortMb L).length) v9_4c) ∧ sl a 14 = (.int .i64 ((sortMb L).length)) ∧ sl a 15 = (.int .i64 ((k : Nat))) ∧ Own W b2_2 z5C 33 ∧ Own W b5_9 [(.int .u8 (5)), (.int .i64 (0)), (.string (⟨#[]⟩)), va3_16, va4_16] 33 ∧ Rd W (SA w S (blks hd4_16 ++ (blks hd3_16 ++ (b5_9 :: (b2_2 :: []))))) (mbsD (sortMb L)) (.slice v9_4a ((sortMb L).length) v9_4c) ∧ Arr W w.heap.size 9 1 (SF w (blks hd4_16 ++ (blks hd3_16 ++ (b5_9 :: (b2_2 :: []))))) (List.map D.str (List.map Mb.nm ((sortMb L).take k))) va3_16 hd3_16 ∧ b2_2 ∉ blks hd3_16 ∧ b5_9 ∉ blks hd3_16 ∧ Arr W w.heap.size 33 5 (SF w (blks hd4_16 ++ (blks hd3_16 ++ (b5_9 :: (b2_2 :: []))))) (List.map V.d (List.map Mb.v ((sortMb L).take k))) va4_16 hd4_16 ∧ b2_2 ∉ blks hd4_16 ∧ b5_9 ∉ blks hd4_16 ∧ (∀ b ∈ blks hd3_16, b ∉ blks hd4_16) ∧ (∀ i (h : i + 1 < (sortMb L).length), i + 1 < k → ((sortMb L)[i]).nm ≠ ((sortMb L)[i + 1]).nm)) ⟨(.slice none 0 0), none, (.slice none 0 0), (none), y13, zz13, kw, e2, e4, e5, e13, e14, (e15.trans (congrArg (Value.int .i64) (rfl))), own_b2_2, own_b5_9, D_v9_4, A_ar14, nb_none, nb_none, A_ar15, nb_none, nb_none, (fun _ _ => nb_none), fun i h hi => absurd hi (by omega)⟩ ?_
 clear kw e2 e4 e5 e13 e14 e15 own_b2_2 own_b5_9 D_v9_4 A_ar14 A_ar15
 rintro k a16 W16 hkk ⟨va3_16, hd3_16, va4_16, hd4_16, y16, zz16, kw, e2, e4, e5, e13, e14, e15, own_b2_2, own_b5_9, D_v9_4, A3_16, nb_b2_2_ar14_16, nb_b5_9_ar14_16, A4_16, nb_b2_2_ar15_16, nb_b5_9_ar15_16, dj_ar14_ar15_16, hinv⟩
 refine zq fun K17 hK17 => ?_
 refine rg mixed y16 zz16 ?_
 refine .i (sp_lss (hbs rfl e15) (hbs rfl e14)) ?_
 refine .dn fun a18 g W18 y18 zz18 hk hg hV hR hP => ?_
 obtain ⟨e16, -⟩ := hV
 replace e2 := ft hR e2
 replace e4 := ft hR e4
 replace e5 := ft hR e5
 replace e13 := ft hR e13
 replace e14 := ft hR e14
 replace e15 := ft hR e15
 replace A3_16 := A3_16.ext hk
 replace A4_16 := A4_16.ext hk
 replace D_v9_4 := D_v9_4.ext hk
 replace e16 := e16.q
 replace own_b2_2 := own_b2_2.ext hk
 replace own_b5_9 := own_b5_9.ext hk
 replace kw := kw.x hk
 clear hR hk hg hP
 refine zn (hK17 _ _ ?_)
 refine zq fun K19 hK19 => ?_
 refine zc e16 (fun hc => ?_) (fun hc => ?_)
 ·
  have hlt : k < (sortMb L).length := by simpa using hc
  have hwm := hwS _ (List.getElem_mem hlt)
  refine wp_skip (hK19 _ _ ?_)
  refine zq fun K20 hK20 => ?_
  refine wp_block ?_
  refine zq fun K21 hK21 => ?_
  refine rg mixed y18 zz18 ?_
  refine .mb rfl e15 ?_
  refine .rf (X := SA w S (blks hd4_16 ++ (blks hd3_16 ++ (b5_9 :: (b2_2 :: []))))) (e := Mb.d ((sortMb L)[k]'hlt)) (sp_indexL (i := k) ((hbs rfl e13).dat D_v9_4 sub_all) (hbs rfl e15) Try.underlying82 sz67 rfl hlt) ?_
  refine .da (X := SA w S (blks hd4_16 ++ (blks hd3_16 ++ (b5_9 :: (b2_2 :: []))))) (e := Mb.d ((sortMb L)[k]'hlt)) (sp_loadR (hlc rfl) agg67 sz67 (width_Mb _)) ?_
  refine .alloc z67 ?_
  refine .al rfl ?_
  refine .dn fun a22 g W22 y22 zz22 hk hg hV hR hP => ?_
  obtain ⟨e6, ⟨b7_22, e7, hb7, own_b7_22⟩, e19, -, -, -⟩ := hV
  have lo_b7_22 : w.heap.size ≤ b7_22 := Nat.le_trans kw.size (hg.lo _ _ hb7)
  have ne_b2_2_b7_22 : b2_2 ≠ b7_22 := Nat.ne_of_lt (Nat.lt_of_lt_of_le own_b2_2.lt (hg.lo _ _ hb7))
  have ne_b5_9_b7_22 : b5_9 ≠ b7_22 := Nat.ne_of_lt (Nat.lt_of_lt_of_le own_b5_9.lt (hg.lo _ _ hb7))
  have own_b7_22 : Own W22 b7_22 [(.string (⟨#[]⟩)), (.int .u8 (0)), (.int .i64 (0)), (.string (⟨#[]⟩)), (.slice none 0 0), (.slice none 0 0)] 67 := own_b7_22
  replace e2 := ft hR e2
  replace e4 := ft hR e4
  replace e5 := ft hR e5
  replace e13 := ft hR e13
  replace e14 := ft hR e14
  replace e15 := ft hR e15
  have hMx : ∀ b ∈ (blks hd4_16 ++ (blks hd3_16 ++ (b5_9 :: (b2_2 :: [])))), b < W18.heap.size := (in_app A4_16.lt (in_app A3_16.lt (in_cons own_b5_9.lt (in_cons own_b2_2.lt in_nil))))
  have nb_b7_22_ar14 : b7_22 ∉ blks hd3_16 := nb_lt A3_16.lt (hg.lo _ _ hb7)
  replace A3_16 : Arr W22 w.heap.size 9 1 (SF w (b7_22 :: (blks hd4_16 ++ (blks hd3_16 ++ (b5_9 :: (b2_2 :: [])))))) (List.map D.str (List.map Mb.nm ((sortMb L).take k))) va3_16 hd3_16 := arrF_more A3_16 hk [b7_22] (in_cons (hg.lo _ _ hb7) in_nil)
  have nb_b7_22_ar15 : b7_22 ∉ blks hd4_16 := nb_lt A4_16.lt (hg.lo _ _ hb7)
  replace A4_16 : Arr W22 w.heap.size 33 5 (SF w (b7_22 :: (blks hd4_16 ++ (blks hd3_16 ++ (b5_9 :: (b2_2 :: [])))))) (List.map V.d (List.map Mb.v ((sortMb L).take k))) va4_16 hd4_16 := arrF_more A4_16 hk [b7_22] (in_cons (hg.lo _ _ hb7) in_nil)
  replace D_v9_4 : Rd W22 (SA w S (b7_22 :: (blks hd4_16 ++ (blks hd3_16 ++ (b5_9 :: (b2_2 :: [])))))) (mbsD (sortMb L)) (.slice v9_4a ((sortMb L).length) v9_4c) := sa_more D_v9_4 hk [b7_22] (in_cons (hg.lo _ _ hb7) in_nil)
  obtain ⟨v19_22, ev⟩ : ∃ v, sl a22 19 = v := ⟨_, rfl⟩
  rw [ev] at e19
  have D_v19_22 : Rd W22 (SA w S (b7_22 :: (blks hd4_16 ++ (blks hd3_16 ++ (b5_9 :: (b2_2 :: [])))))) (Mb.d ((sortMb L)[k]'hlt)) v19_22 := sa_end e19 hk [b7_22] (in_cons ⟨_, hb7⟩ in_nil)
  replace e19 := ev; clear ev
  obtain ⟨v19_22_4a, v19_22_4c, v19_22_5a, v19_22_5c, ev, hb_v19_22_0, hb_v19_22_3, D_v19_22_4, D_v19_22_5⟩ := rdMb_out D_v19_22
  subst ev; clear D_v19_22
  replace e6 := e6.q
  replace own_b2_2 := own_b2_2.ext hk
  replace own_b5_9 := own_b5_9.ext hk
  replace kw := kw.x hk
  clear hR hk hg hP hb7
  refine tail_store e7 e19 sz67 rfl own_b7_22 (lbr rfl) (all_cons rfl (all_cons rfl (all_cons rfl (all_cons rfl (all_cons rfl (all_cons rfl all_nil)))))) (fun W23 hs own_b7_22 => ?_)
  have own_b7_22 : Own W23 b7_22 [(.string (((sortMb L)[k]'hlt).nm)), (.int .u8 (((sortMb L)[k]'hlt).v.k)), (.int .i64 (((sortMb L)[k]'hlt).v.n)), (.string (((sortMb L)[k]'hlt).v.t)), (.slice v19_22_4a ((((sortMb L)[k]'hlt).v.ns).length) v19_22_4c), (.slice v19_22_5a ((((sortMb L)[k]'hlt).v.xs).length) v19_22_5c)] 67 := own_b7_22
  replace own_b2_2 := own_store own_b2_2 hs ne_b2_2_b7_22
  replace own_b5_9 := own_store own_b5_9 hs ne_b5_9_b7_22
  replace D_v9_4 := sa_store D_v9_4 hs (by simp)
  replace D_v19_22_4 := sa_store D_v19_22_4 hs (by simp)
  replace D_v19_22_5 := sa_store D_v19_22_5 hs (by simp)
  replace A3_16 := arrF_store A3_16 hs (by simp) nb_b7_22_ar14
  replace A4_16 := arrF_store A4_16 hs (by simp) nb_b7_22_ar15
  replace kw := keeps_store kw hs lo_b7_22
  clear hs
  refine zn (hK21 _ _ ?_)
  refine zq fun K24 hK24 => ?_
  refine zq fun K25 hK25 => ?_
  refine rg mixed y22 zz22 ?_
  refine .mb rfl e6 ?_
  refine .i (sp_gtr (hlc rfl) Has.cst) ?_
  refine .i (sp_move (hlc rfl)) ?_
  refine .em rfl (hlc rfl) rfl e4 ?_
  refine .em rfl (hlc rfl) rfl e6 ?_
  refine .e rfl (hlc rfl) (fun hg => sp_sub ((hlc rfl).undE hg) Has.cst (i64_in (by omega))) ?_
  refine .opE (t := 22) (φ := IsR (SA w S (b7_22 :: (blks hd4_16 ++ (blks hd3_16 ++ (b5_9 :: (b2_2 :: [])))))) (Mb.d ((sortMb L)[(k - 1)]'(by omega)))) rfl (hlc rfl) (st_r sub_all) (fun hg => sp_indexL (i := (k - 1)) (((hlc rfl).undE hg).dat D_v9_4 sub_all) ((hlc rfl).undE hg) Try.underlying82 sz67 (by have := of_decide_eq_true hg; omega) (by omega)) ?_
  refine .opE (t := 22) (φ := IsR (SA w S (b7_22 :: (blks hd4_16 ++ (blks hd3_16 ++ (b5_9 :: (b2_2 :: [])))))) (D.str (((sortMb L)[(k - 1)]'(by omega)).nm))) rfl (hlc rfl) (st_r sub_all) (fun hg => sp_fieldR ((hlc rfl).undE hg) Try.underlying67 rfl sz9 rfl (by first | rfl | simp [widths, width, hssD, width_V])) ?_
  refine .e rfl (hlc rfl) (fun hg => sp_loadStr ((hlc rfl).undE hg) agg9 sz9) ?_
  refine .e rfl (hlc rfl) (fun hg => fo 0 (hbs rfl e7) Try.underlying67 rfl sz9 rfl) ?_
  refine .e rfl (hlc rfl) (fun hg => lo1 ((hlc rfl).undE hg) own_b7_22 trivial agg9 sz9 rfl) ?_
  refine .e rfl (hlc rfl) (fun hg => sp_sEql ((hlc rfl).undE hg) ((hlc rfl).undE hg)) ?_
  refine .i (sp_and (hlc rfl) ((hlc rfl).weak fun hq => hq)) ?_
  refine .dn fun a26 g W26 y26 zz26 hk hg hV hR hP => ?_
  obtain ⟨e32, -, -, -, -, -, -, -, -, -, -, -, -, -⟩ := hV
  replace e2 := ft hR e2
  replace e4 := ft hR e4
  replace e5 := ft hR e5
  replace e13 := ft hR e13
  replace e14 := ft hR e14
  replace e15 := ft hR e15
  replace e7 := ft hR e7
  replace A3_16 := A3_16.ext hk
  replace A4_16 := A4_16.ext hk
  replace D_v9_4 := D_v9_4.ext hk
  replace D_v19_22_4 := D_v19_22_4.ext hk
  replace D_v19_22_5 := D_v19_22_5.ext hk
  replace e32 := e32.q
  replace own_b2_2 := own_b2_2.ext hk
  replace own_b5_9 := own_b5_9.ext hk
  replace own_b7_22 := own_b7_22.ext hk
  replace kw := kw.x hk
  clear hR hk hg hP
  refine zn (hK25 _ _ ?_)
  refine zc e32 (fun hc => ?_) (fun hc => ?_)
  ·
   have hadj : adj (sortMb L) = true := by simp at hc; exact adj_true _ (k - 1) (by omega) (by simpa [Nat.sub_add_cancel (show 1 ≤ k by omega)] using hc.2)
   have hoe : objE L = 7 := by rw [objE, hadj]; rfl
   have hov : objM L = ⟨0, 0, ⟨#[]⟩, [], []⟩ := by rw [objM, hadj]; rfl
   refine zq fun K27 hK27 => ?_
   refine rg mixed y26 zz26 ?_
   refine .i (v := (.agg #[(.int .u8 (0)), (.int .i64 (0)), (.string (⟨#[]⟩)), (.slice none 0 0), (.slice none 0 0)])) (sp_build (vs := []) Try.underlying33 z33 (pl33 Try.underlying33) trivial rfl) ?_
   refine .dn fun a28 g W28 y28 zz28 hk hg hV hR hP => ?_
   obtain ⟨e33, -⟩ := hV
   replace e2 := ft hR e2
   replace A3_16 := A3_16.ext hk
   replace A4_16 := A4_16.ext hk
   replace D_v9_4 := D_v9_4.ext hk
   replace D_v19_22_4 := D_v19_22_4.ext hk
   replace D_v19_22_5 := D_v19_22_5.ext hk
   replace e33 := e33.q
   replace own_b2_2 := own_b2_2.ext hk
   replace own_b5_9 := own_b5_9.ext hk
   replace own_b7_22 := own_b7_22.ext hk
   replace kw := kw.x hk
   clear hR hk hg hP
   refine tail_store e2 e33 sz33 rfl own_b2_2 (lbr rfl) (all_cons rfl (all_cons rfl (all_cons rfl (all_cons rfl (all_cons rfl all_nil))))) (fun W29 hs own_b2_2 => ?_)
   have own_b2_2 : Own W29 b2_2 z5C 33 := own_b2_2
   replace own_b5_9 := own_store own_b5_9 hs ne_b2_2_b5_9.symm
   replace own_b7_22 := own_store own_b7_22 hs ne_b2_2_b7_22.symm
   replace D_v9_4 := sa_store D_v9_4 hs (by simp)
   replace D_v19_22_4 := sa_store D_v19_22_4 hs (by simp)
   replace D_v19_22_5 := sa_store D_v19_22_5 hs (by simp)
   replace A3_16 := arrF_store A3_16 hs (by simp) nb_b2_2_ar14_16
   replace A4_16 := arrF_store A4_16 hs (by simp) nb_b2_2_ar15_16
   replace kw := keeps_store kw hs lo_b2_2
   clear hs
   refine tail_assign (v := (.int .i64 (7))) rfl (by rw [y28]; exact Nat.le_of_ble_eq_true rfl) (fun a30 y30 zz30 e3 hr => ?_)
   replace y30 := y30.trans y28; replace zz30 := zz30.trans zz28
   replace e2 := (hr 2 (by decide)).trans e2
   replace e33 := (hr 33 (by decide)).trans e33
   clear hr
   refine zn (hK27 _ _ ?_)
   refine wp_ret ?_
   refine retCT (v := (.agg #[(.int .u8 (0)), (.int .i64 (0)), (.string (⟨#[]⟩)), (.slice none 0 0), (.slice none 0 0)])) rfl zz30 e2 own_b2_2 agg33 sz33 rfl (fun h => by cases h) rfl e3 ⟨_, rfl, kw, ?_⟩
   refine ⟨_, by rw [hoe], ?_⟩
   rw [hov]
   exact sf_fr (rdV_mk (lbr rfl) (rd_nil _) (rd_nil _) : Rd W29 (SF w (b7_22 :: (blks hd4_16 ++ (blks hd3_16 ++ (b5_9 :: (b2_2 :: [])))))) (V.d (V.mk (0) (0) (⟨#[]⟩) ([]) ([]))) _)
  have hk1 : 0 < k → ((sortMb L)[k - 1]).nm ≠ ((sortMb L)[k]).nm := by simp at hc; exact fun h => hc h
  refine wp_skip (hK24 _ _ ?_)
  refine zq fun K31 hK31 => ?_
  refine wp_reg (fun k => k ∉ blks hd3_16) (Ψ := fun W => Arr W w.heap.size 9 1 (SF w (b7_22 :: (blks hd4_16 ++ (blks hd3_16 ++ (b5_9 :: (b2_2 :: [])))))) (List.map D.str (List.map Mb.nm ((sortMb L).take k))) va3_16 hd3_16) mixed y26 zz26 (fun W W' k h => h.ext k) A3_16 ?_
  refine .i (fo 3 (hbs rfl e5) Try.underlying33 rfl sz23 rfl) ?_
  refine .i (lo1 (hlc rfl) own_b5_9 nb_b5_9_ar14_16 agg23 sz23 rfl) ?_
  refine .i (fo 0 (hbs rfl e7) Try.underlying67 rfl sz9 rfl) ?_
  refine .i (lo1 (hlc rfl) own_b7_22 nb_b7_22_ar14 agg9 sz9 rfl) ?_
  refine .op (φ := IsD (SF w (b7_22 :: (blks hd4_16 ++ (blks hd3_16 ++ (b5_9 :: (b2_2 :: [])))))) (strsD ([((sortMb L)[k]'hlt).nm]))) (st_d (sub_nbF (fun b hb => List.mem_cons_of_mem _ (List.mem_append_right _ (List.mem_append_left _ hb))))) (sp_bsl (ds := [D.str (((sortMb L)[k]'hlt).nm)]) Try.underlying23 sz9 z9 (lbr rfl) (lbr rfl) ⟨rfl, ((hlc rfl).str hb_v19_22_0), trivial⟩ rfl (by simp [width]) (fr_sf kw (in_cons own_b7_22.lt (in_app A4_16.lt (in_app A3_16.lt (in_cons own_b5_9.lt (in_cons own_b2_2.lt in_nil))))))) ?_
  refine .appB (ds := List.map D.str (List.map Mb.nm ((sortMb L).take k))) (es := [D.str (((sortMb L)[k]'hlt).nm)]) (X := SF w (b7_22 :: (blks hd4_16 ++ (blks hd3_16 ++ (b5_9 :: (b2_2 :: [])))))) Try.underlying23 inf9 (lbr rfl) (hlc rfl) (hlc rfl) (sub_nbF (fun b hb => List.mem_cons_of_mem _ (List.mem_append_right _ (List.mem_append_left _ hb)))) (by simp [maxLen]; omega) (by simp; omega) kw.size ?_
  refine .i (fo 3 (hbs rfl e5) Try.underlying33 rfl sz23 rfl) ?_
  refine .dn fun a32 g W32 y32 zz32 hk hg hV hR hP => ?_
  obtain ⟨e40, e39, -, -, -, -, -, -⟩ := hV
  replace e2 := ft hR e2
  replace e4 := ft hR e4
  replace e5 := ft hR e5
  replace e13 := ft hR e13
  replace e14 := ft hR e14
  replace e15 := ft hR e15
  replace e7 := ft hR e7
  obtain ⟨v39_32, ev⟩ : ∃ v, sl a32 39 = v := ⟨_, rfl⟩
  rw [ev] at e39
  obtain ⟨hd39_32, A_39_32, hf39_32⟩ := e39
  have e39 := ev; clear ev
  obtain ⟨v39_32a, v39_32n, v39_32c, ev⟩ := arr_sl A_39_32; subst ev
  replace A_39_32 := arrF_new (M' := (b7_22 :: (blks hd4_16 ++ (blks hd39_32 ++ (b5_9 :: (b2_2 :: [])))))) A_39_32 (rep_cons (rep_app rep_refl (rep_app (rep_q fun _ h => h) (rep_cons (rep_cons rep_nil)))))
  replace A_39_32 : Arr W32 w.heap.size 9 1 (SF w (b7_22 :: (blks hd4_16 ++ (blks hd39_32 ++ (b5_9 :: (b2_2 :: [])))))) (List.map D.str ((List.map Mb.nm ((sortMb L).take k)) ++ [((sortMb L)[k]'hlt).nm])) (.slice v39_32a v39_32n v39_32c) hd39_32 := by first | exact A_39_32 | (rw [List.map_append]; exact A_39_32)
  have nb_b2_2_32 : b2_2 ∉ blks hd39_32 := nb_new nb_b2_2_ar14_16 own_b2_2.lt hf39_32
  have nb_b5_9_32 : b5_9 ∉ blks hd39_32 := nb_new nb_b5_9_ar14_16 own_b5_9.lt hf39_32
  have nb_b7_22_32 : b7_22 ∉ blks hd39_32 := nb_new nb_b7_22_ar14 own_b7_22.lt hf39_32
  have dj_ar15_32 : ∀ b ∈ blks hd4_16, b ∉ blks hd39_32 := dj_new (dj_symm dj_ar14_ar15_16) A4_16.lt hf39_32
  replace A4_16 := arrF_app (M' := (b7_22 :: (blks hd4_16 ++ (blks hd39_32 ++ (b5_9 :: (b2_2 :: [])))))) A4_16 hk (fun b hb => List.mem_cons_of_mem _ (List.mem_append_right _ (List.mem_append_left _ hb))) (rep_cons (rep_app rep_refl (rep_app hf39_32 (rep_cons (rep_cons rep_nil))))) (dj_symm dj_ar14_ar15_16)
  replace D_v9_4 := sa_app (M' := (b7_22 :: (blks hd4_16 ++ (blks hd39_32 ++ (b5_9 :: (b2_2 :: [])))))) D_v9_4 hk (fun b hb => List.mem_cons_of_mem _ (List.mem_append_right _ (List.mem_append_left _ hb))) (rep_cons (rep_app rep_refl (rep_app hf39_32 (rep_cons (rep_cons rep_nil)))))
  replace D_v19_22_4 := sa_app (M' := (b7_22 :: (blks hd4_16 ++ (blks hd39_32 ++ (b5_9 :: (b2_2 :: [])))))) D_v19_22_4 hk (fun b hb => List.mem_cons_of_mem _ (List.mem_append_right _ (List.mem_append_left _ hb))) (rep_cons (rep_app rep_refl (rep_app hf39_32 (rep_cons (rep_cons rep_nil)))))
  replace D_v19_22_5 := sa_app (M' := (b7_22 :: (blks hd4_16 ++ (blks hd39_32 ++ (b5_9 :: (b2_2 :: [])))))) D_v19_22_5 hk (fun b hb => List.mem_cons_of_mem _ (List.mem_append_right _ (List.mem_append_left _ hb))) (rep_cons (rep_app rep_refl (rep_app hf39_32 (rep_cons (rep_cons rep_nil)))))
  replace own_b2_2 := own_app own_b2_2 hk nb_b2_2_ar14_16
  replace own_b5_9 := own_app own_b5_9 hk nb_b5_9_ar14_16
  replace own_b7_22 := own_app own_b7_22 hk nb_b7_22_ar14
  replace kw := keeps_app kw hk A3_16.ge
  have e40 : sl a32 40 = (.pointer (some ⟨b5_9, 3, none⟩)) := e40
  clear hR hk hg hP hf39_32 A3_16
  refine tail_store e40 e39 sz23 rfl own_b5_9 (lbr rfl) (all_cons rfl all_nil) (fun W33 hs own_b5_9 => ?_)
  have own_b5_9 : Own W33 b5_9 [(.int .u8 (5)), (.int .i64 (0)), (.string (⟨#[]⟩)), (.slice v39_32a v39_32n v39_32c), va4_16] 33 := own_b5_9
  replace own_b2_2 := own_store own_b2_2 hs ne_b2_2_b5_9
  replace own_b7_22 := own_store own_b7_22 hs ne_b5_9_b7_22.symm
  replace D_v9_4 := sa_store D_v9_4 hs (by simp)
  replace D_v19_22_4 := sa_store D_v19_22_4 hs (by simp)
  replace D_v19_22_5 := sa_store D_v19_22_5 hs (by simp)
  replace A_39_32 := arrF_store A_39_32 hs (by simp) nb_b5_9_32
  replace A4_16 := arrF_store A4_16 hs (by simp) nb_b5_9_ar15_16
  replace kw := keeps_store kw hs lo_b5_9
  clear hs
  refine zn (hK31 _ _ ?_)
  refine wp_reg (fun k => k ∉ blks hd4_16) (Ψ := fun W => Arr W w.heap.size 33 5 (SF w (b7_22 :: (blks hd4_16 ++ (blks hd39_32 ++ (b5_9 :: (b2_2 :: [])))))) (List.map V.d (List.map Mb.v ((sortMb L).take k))) va4_16 hd4_16) mixed y32 zz32 (fun W W' k h => h.ext k) A4_16 ?_
  refine .i (fo 4 (hbs rfl e5) Try.underlying33 rfl sz31 rfl) ?_
  refine .i (lo1 (hlc rfl) own_b5_9 nb_b5_9_ar15_16 agg31 sz31 rfl) ?_
  refine .i (fo 1 (hbs rfl e7) Try.underlying67 rfl sz33 rfl) ?_
  refine .i (v := (.agg #[(.int .u8 (((sortMb L)[k]'hlt).v.k)), (.int .i64 (((sortMb L)[k]'hlt).v.n)), (.string (((sortMb L)[k]'hlt).v.t)), (.slice v19_22_4a ((((sortMb L)[k]'hlt).v.ns).length) v19_22_4c), (.slice v19_22_5a ((((sortMb L)[k]'hlt).v.xs).length) v19_22_5c)])) (loA (hlc rfl) own_b7_22 nb_b7_22_ar15 agg33 sz33 rfl rfl) ?_
  refine .op (φ := IsD (Fr W33) (V.d (((sortMb L)[k]'hlt).v))) (st_d (sub_frnb (fun b hb => A4_16.lt b hb))) (sp_call1 (φ1 := IsD (SA w S (b7_22 :: (blks hd4_16 ++ (blks hd39_32 ++ (b5_9 :: (b2_2 :: [])))))) (V.d (((sortMb L)[k]'hlt).v))) ent79 ((hlc rfl).dat (rdV_in (x := ((sortMb L)[k]'hlt).v) hb_v19_22_3 D_v19_22_4 D_v19_22_5 : Rd W33 (SA w S (b7_22 :: (blks hd4_16 ++ (blks hd39_32 ++ (b5_9 :: (b2_2 :: [])))))) (V.d (((sortMb L)[k]'hlt).v)) _) (sub_nb (fun b hb => List.mem_cons_of_mem _ (List.mem_append_left _ hb)))) (fun g u1 W hk hgk h1 => (Copy_ok (((sortMb L)[k]'hlt).v) (by first | omega | exact Nat.le_of_ble_eq_true (by kernel_rfl)) W _ _ (fun b o h => sa_cln hS b o h.1) h1).mono (ret_fr hk hgk))) ?_
  refine .op (φ := IsD (SF w (b7_22 :: (blks hd4_16 ++ (blks hd39_32 ++ (b5_9 :: (b2_2 :: [])))))) (valsD ([((sortMb L)[k]'hlt).v]))) (st_d (sub_nbF (fun b hb => List.mem_cons_of_mem _ (List.mem_append_left _ hb)))) (sp_bsl (ds := [V.d (((sortMb L)[k]'hlt).v)]) Try.underlying31 sz33 z33 (lbr rfl) (lbr rfl) ⟨rfl, ((hlc rfl).sup (fr_sf kw (in_cons own_b7_22.lt (in_app A4_16.lt (in_app A_39_32.lt (in_cons own_b5_9.lt (in_cons own_b2_2.lt in_nil))))))), trivial⟩ rfl (by intro e he; simp at he; rcases he with rfl <;> exact width_V _) (fr_sf kw (in_cons own_b7_22.lt (in_app A4_16.lt (in_app A_39_32.lt (in_cons own_b5_9.lt (in_cons own_b2_2.lt in_nil))))))) ?_
  refine .appB (ds := List.map V.d (List.map Mb.v ((sortMb L).take k))) (es := [V.d (((sortMb L)[k]'hlt).v)]) (X := SF w (b7_22 :: (blks hd4_16 ++ (blks hd39_32 ++ (b5_9 :: (b2_2 :: [])))))) Try.underlying31 inf33 (lbr rfl) (hlc rfl) (hlc rfl) (sub_nbF (fun b hb => List.mem_cons_of_mem _ (List.mem_append_left _ hb))) (by simp [maxLen]; omega) (by simp; omega) kw.size ?_
  refine .i (fo 4 (hbs rfl e5) Try.underlying33 rfl sz31 rfl) ?_
  refine .dn fun a34 g W34 y34 zz34 hk hg hV hR hP => ?_
  obtain ⟨e48, e47, -, -, -, -, -, -, -⟩ := hV
  replace e2 := ft hR e2
  replace e4 := ft hR e4
  replace e5 := ft hR e5
  replace e13 := ft hR e13
  replace e14 := ft hR e14
  replace e15 := ft hR e15
  obtain ⟨v47_34, ev⟩ : ∃ v, sl a34 47 = v := ⟨_, rfl⟩
  rw [ev] at e47
  obtain ⟨hd47_34, A_47_34, hf47_34⟩ := e47
  have e47 := ev; clear ev
  obtain ⟨v47_34a, v47_34n, v47_34c, ev⟩ := arr_sl A_47_34; subst ev
  replace A_47_34 := arrF_new (M' := (b7_22 :: (blks hd47_34 ++ (blks hd39_32 ++ (b5_9 :: (b2_2 :: [])))))) A_47_34 (rep_cons (rep_app (rep_q fun _ h => h) (rep_app rep_refl (rep_cons (rep_cons rep_nil)))))
  replace A_47_34 : Arr W34 w.heap.size 33 5 (SF w (b7_22 :: (blks hd47_34 ++ (blks hd39_32 ++ (b5_9 :: (b2_2 :: [])))))) (List.map V.d ((List.map Mb.v ((sortMb L).take k)) ++ [((sortMb L)[k]'hlt).v])) (.slice v47_34a v47_34n v47_34c) hd47_34 := by first | exact A_47_34 | (rw [List.map_append]; exact A_47_34)
  have nb_b2_2_34 : b2_2 ∉ blks hd47_34 := nb_new nb_b2_2_ar15_16 own_b2_2.lt hf47_34
  have nb_b5_9_34 : b5_9 ∉ blks hd47_34 := nb_new nb_b5_9_ar15_16 own_b5_9.lt hf47_34
  have nb_b7_22_34 : b7_22 ∉ blks hd47_34 := nb_new nb_b7_22_ar15 own_b7_22.lt hf47_34
  have dj_ar14_34 : ∀ b ∈ blks hd39_32, b ∉ blks hd47_34 := dj_new (dj_symm dj_ar15_32) A_39_32.lt hf47_34
  replace A_39_32 := arrF_app (M' := (b7_22 :: (blks hd47_34 ++ (blks hd39_32 ++ (b5_9 :: (b2_2 :: [])))))) A_39_32 hk (fun b hb => List.mem_cons_of_mem _ (List.mem_append_left _ hb)) (rep_cons (rep_app hf47_34 (rep_app rep_refl (rep_cons (rep_cons rep_nil))))) (dj_symm dj_ar15_32)
  replace D_v9_4 := sa_app (M' := (b7_22 :: (blks hd47_34 ++ (blks hd39_32 ++ (b5_9 :: (b2_2 :: [])))))) D_v9_4 hk (fun b hb => List.mem_cons_of_mem _ (List.mem_append_left _ hb)) (rep_cons (rep_app hf47_34 (rep_app rep_refl (rep_cons (rep_cons rep_nil)))))
  replace D_v19_22_4 := sa_app (M' := (b7_22 :: (blks hd47_34 ++ (blks hd39_32 ++ (b5_9 :: (b2_2 :: [])))))) D_v19_22_4 hk (fun b hb => List.mem_cons_of_mem _ (List.mem_append_left _ hb)) (rep_cons (rep_app hf47_34 (rep_app rep_refl (rep_cons (rep_cons rep_nil)))))
  replace D_v19_22_5 := sa_app (M' := (b7_22 :: (blks hd47_34 ++ (blks hd39_32 ++ (b5_9 :: (b2_2 :: [])))))) D_v19_22_5 hk (fun b hb => List.mem_cons_of_mem _ (List.mem_append_left _ hb)) (rep_cons (rep_app hf47_34 (rep_app rep_refl (rep_cons (rep_cons rep_nil)))))
  replace own_b2_2 := own_app own_b2_2 hk nb_b2_2_ar15_16
  replace own_b5_9 := own_app own_b5_9 hk nb_b5_9_ar15_16
  replace own_b7_22 := own_app own_b7_22 hk nb_b7_22_ar15
  replace kw := keeps_app kw hk A4_16.ge
  have e48 : sl a34 48 = (.pointer (some ⟨b5_9, 4, none⟩)) := e48
  clear hR hk hg hP hf47_34 A4_16
  refine tail_store e48 e47 sz31 rfl own_b5_9 (lbr rfl) (all_cons rfl all_nil) (fun W35 hs own_b5_9 => ?_)
  have own_b5_9 : Own W35 b5_9 [(.int .u8 (5)), (.int .i64 (0)), (.string (⟨#[]⟩)), (.slice v39_32a v39_32n v39_32c), (.slice v47_34a v47_34n v47_34c)] 33 := own_b5_9
  replace own_b2_2 := own_store own_b2_2 hs ne_b2_2_b5_9
  replace own_b7_22 := own_store own_b7_22 hs ne_b5_9_b7_22.symm
  replace D_v9_4 := sa_store D_v9_4 hs (by simp)
  replace D_v19_22_4 := sa_store D_v19_22_4 hs (by simp)
  replace D_v19_22_5 := sa_store D_v19_22_5 hs (by simp)
  replace A_39_32 := arrF_store A_39_32 hs (by simp) nb_b5_9_32
  replace A_47_34 := arrF_store A_47_34 hs (by simp) nb_b5_9_34
  replace kw := keeps_store kw hs lo_b5_9
  clear hs
  refine zn (hK20 _ _ ?_)
  refine rg mixed y34 zz34 ?_
  refine .i (sp_add (hbs rfl e15) Has.cst (i64_in (by omega))) ?_
  refine .i (sp_move (hlc rfl)) ?_
  refine .dn fun a36 g W36 y36 zz36 hk hg hV hR hP => ?_
  obtain ⟨e15, -, -⟩ := hV
  replace e2 := ft hR e2
  replace e4 := ft hR e4
  replace e5 := ft hR e5
  replace e13 := ft hR e13
  replace e14 := ft hR e14
  replace A_39_32 := A_39_32.ext hk
  replace A_47_34 := A_47_34.ext hk
  replace D_v9_4 := D_v9_4.ext hk
  replace e15 := e15.q
  replace own_b2_2 := own_b2_2.ext hk
  replace own_b5_9 := own_b5_9.ext hk
  replace own_b7_22 := own_b7_22.ext hk
  replace kw := kw.x hk
  clear hR hk hg hP
  rw [show (List.map Mb.nm ((sortMb L).take k)) ++ [((sortMb L)[k]'hlt).nm] = List.map Mb.nm ((sortMb L).take (k + 1)) by rw [List.take_succ_eq_append_getElem hlt, List.map_append]; rfl] at A_39_32
  rw [show (List.map Mb.v ((sortMb L).take k)) ++ [((sortMb L)[k]'hlt).v] = List.map Mb.v ((sortMb L).take (k + 1)) by rw [List.take_succ_eq_append_getElem hlt, List.map_append]; rfl] at A_47_34
  exact tail_nil ⟨hlt, (.slice v39_32a v39_32n v39_32c), hd39_32, (.slice v47_34a v47_34n v47_34c), hd47_34, y36, zz36, kw, e2, e4, e5, e13, e14, (e15.trans (congrArg (Value.int .i64) (by simp))), own_b2_2, own_b5_9, (sa_less D_v9_4 (ls_skip (ls_keepA (ls_keepA (ls_keep (ls_keep ls_nil)))))), (arrF_less A_39_32 (ls_skip (ls_keepA (ls_keepA (ls_keep (ls_keep ls_nil)))))), nb_b2_2_32, nb_b5_9_32, (arrF_less A_47_34 (ls_skip (ls_keepA (ls_keepA (ls_keep (ls_keep ls_nil)))))), nb_b2_2_34, nb_b5_9_34, dj_ar14_34, fun i h hi => by rcases Nat.lt_succ_iff_lt_or_eq.1 hi with h1 | h1; exact hinv i h h1; subst h1; exact hk1 (by omega)⟩
 have hge0 : ¬ k < (sortMb L).length := by simpa using hc
 have hge : k = (sortMb L).length := by omega
 have hadj : adj (sortMb L) = false := adj_false _ fun i h => hinv i h (by omega)
 have hoe : objE L = 0 := by rw [objE, hadj]; rfl
 have hov : objM L = ⟨5, 0, ⟨#[]⟩, (sortMb L).map Mb.nm, (sortMb L).map Mb.v⟩ := by rw [objM, hadj]; rfl
 rw [show List.map Mb.nm ((sortMb L).take k) = List.map Mb.nm (sortMb L) by rw [hge, List.take_length]] at A3_16
 have D_va3_16 : Rd W18 (SF w (blks hd4_16 ++ (b5_9 :: (b2_2 :: [])))) (strsD (List.map Mb.nm (sortMb L))) va3_16 := arrF_rd A3_16 (ls_keepA (ls_skipA (ls_keep (ls_keep ls_nil)))) (nin_app dj_ar14_ar15_16 (nin_cons nb_b5_9_ar14_16 (nin_cons nb_b2_2_ar14_16 nin_nil)))
 obtain ⟨va3_16a, va3_16c, ev, D2⟩ := rdS_out D_va3_16
 subst ev; replace D_va3_16 := D2; clear D2
 replace D_v9_4 := sa_less (M' := (blks hd4_16 ++ (b5_9 :: (b2_2 :: [])))) D_v9_4 (ls_keepA (ls_skipA (ls_keep (ls_keep ls_nil))))
 replace A4_16 := arrF_less (M' := (blks hd4_16 ++ (b5_9 :: (b2_2 :: [])))) A4_16 (ls_keepA (ls_skipA (ls_keep (ls_keep ls_nil))))
 rw [show List.map Mb.v ((sortMb L).take k) = List.map Mb.v (sortMb L) by rw [hge, List.take_length]] at A4_16
 have D_va4_16 : Rd W18 (SF w [b5_9, b2_2]) (valsD (List.map Mb.v (sortMb L))) va4_16 := arrF_rd A4_16 (ls_skipA (ls_keep (ls_keep ls_nil))) (nin_cons nb_b5_9_ar15_16 (nin_cons nb_b2_2_ar15_16 nin_nil))
 obtain ⟨va4_16a, va4_16c, ev, D2⟩ := rdVs_out D_va4_16
 subst ev; replace D_va4_16 := D2; clear D2
 replace D_v9_4 := sa_less (M' := [b5_9, b2_2]) D_v9_4 (ls_skipA (ls_keep (ls_keep ls_nil)))
 replace D_va3_16 := sf_less (M' := [b5_9, b2_2]) D_va3_16 (ls_skipA (ls_keep (ls_keep ls_nil)))
 refine wp_exit (hK11 _ _ ?_)
 refine zq fun K37 hK37 => ?_
 refine rg mixed y18 zz18 ?_
 refine .i (v := (.agg #[(.int .u8 (5)), (.int .i64 (0)), (.string (⟨#[]⟩)), (.slice va3_16a ((List.map Mb.nm (sortMb L)).length) va3_16c), (.slice va4_16a ((List.map Mb.v (sortMb L)).length) va4_16c)])) (loA (hbs rfl e5) own_b5_9 trivial agg33 sz33 rfl rfl) ?_
 refine .dn fun a38 g W38 y38 zz38 hk hg hV hR hP => ?_
 obtain ⟨e50, -⟩ := hV
 replace e2 := ft hR e2
 replace D_v9_4 := D_v9_4.ext hk
 replace D_va3_16 := D_va3_16.ext hk
 replace D_va4_16 := D_va4_16.ext hk
 replace e50 := e50.q
 replace own_b2_2 := own_b2_2.ext hk
 replace own_b5_9 := own_b5_9.ext hk
 replace kw := kw.x hk
 clear hR hk hg hP
 refine tail_store e2 e50 sz33 rfl own_b2_2 (lbr rfl) (all_cons rfl (all_cons rfl (all_cons rfl (all_cons rfl (all_cons rfl all_nil))))) (fun W39 hs own_b2_2 => ?_)
 have own_b2_2 : Own W39 b2_2 [(.int .u8 (5)), (.int .i64 (0)), (.string (⟨#[]⟩)), (.slice va3_16a ((List.map Mb.nm (sortMb L)).length) va3_16c), (.slice va4_16a ((List.map Mb.v (sortMb L)).length) va4_16c)] 33 := own_b2_2
 replace own_b5_9 := own_store own_b5_9 hs ne_b2_2_b5_9.symm
 replace D_v9_4 := sa_store D_v9_4 hs (by simp)
 replace D_va3_16 := sf_store D_va3_16 hs (by simp)
 replace D_va4_16 := sf_store D_va4_16 hs (by simp)
 replace kw := keeps_store kw hs lo_b2_2
 clear hs
 refine tail_assign (v := (.int .i64 (0))) rfl (by rw [y38]; exact Nat.le_of_ble_eq_true rfl) (fun a40 y40 zz40 e3 hr => ?_)
 replace y40 := y40.trans y38; replace zz40 := zz40.trans zz38
 replace e2 := (hr 2 (by decide)).trans e2
 replace e50 := (hr 50 (by decide)).trans e50
 clear hr
 refine zn (hK37 _ _ ?_)
 refine wp_ret ?_
 refine retCT (v := (.agg #[(.int .u8 (5)), (.int .i64 (0)), (.string (⟨#[]⟩)), (.slice va3_16a ((List.map Mb.nm (sortMb L)).length) va3_16c), (.slice va4_16a ((List.map Mb.v (sortMb L)).length) va4_16c)])) rfl zz40 e2 own_b2_2 agg33 sz33 rfl (fun h => by cases h) rfl e3 ⟨_, rfl, kw, ?_⟩
 refine ⟨_, by rw [hoe], ?_⟩
 rw [hov]
 exact sf_fr (rdV_mk (lbr rfl) D_va3_16 D_va4_16 : Rd W39 (SF w [b5_9, b2_2]) (V.d (V.mk (5) (0) (⟨#[]⟩) (List.map Mb.nm (sortMb L)) (List.map Mb.v (sortMb L)))) _)
end Go.Proofs.Ytnobijngkpflcaa
namespace Go.Eng
theorem Au.ext' {a b : Au} (h1 : a.th = b.th) (h2 : a.ids = b.ids) : a = b := by cases a; cases b; simp_all
end Go.Eng
namespace Go.Eng
def errK (k : Nat) (e : Int) : Int := if e = 0 ∧ k ≠ 5 then 10 else e
def failK (k : Nat) (e e' : Int) : Int := if errK k e = 0 then e' else e
def itemsE (v : V) (most : Int) : Int := if v.k ≠ 4 then 10 else if most < v.xs.length then 5 else 0
def itemsV (v : V) (most : Int) : List V := if itemsE v most = 0 then v.xs else []
def allT (xs : List V) : Bool := xs.all fun v => decide (v.k = 3)
def textsE (most : Int) (v : V) : Int := if itemsE v most ≠ 0 then itemsE v most else if allT v.xs then 0 else 10
def textsL (most : Int) (v : V) : List ByteArray := if textsE most v = 0 then v.xs.map V.t else []
def numE (lo hi : Int) (v : V) : Int := if v.k ≠ 2 then 10 else if v.n < lo ∨ hi < v.n then 1 else 0
def numV (lo hi : Int) (v : V) : Int := if numE lo hi v = 0 then v.n else 0
def tkE (x : V) (e : Int) (name : ByteArray) (ce : V → Int) : Int := if errK x.k e ≠ 0 then e else if getB x name = false then 6 else ce (getV x name)
def tkB (x : V) (e : Int) (name : ByteArray) (ce : V → Int) : Bool := decide (errK x.k e = 0) && getB x name && decide (ce (getV x name) = 0)
def tkA (x : V) (A : As) (e : Int) (name : ByteArray) (ce : V → Int) : As := if tkB x e name ce then mset A name (mget A name + 1) else A
def doneE (x : V) (A : As) (e : Int) : Int := if errK x.k e ≠ 0 then errK x.k e else if x.ns.all (fun s => decide (mget A s ≠ 0)) then 0 else 11
theorem errK_zero {k : Nat} {e : Int} (h : errK k e = 0) : e = 0 ∧ k = 5 := by
  unfold errK at h
  split at h
  · cases h
  · rename_i hn
    subst h
    exact ⟨rfl, by omega⟩
theorem done_false {ns : List ByteArray} {A : As} {k : Nat} (h : k < ns.length) (h0 : mget A ns[k] = 0) : ns.all (fun s => decide (mget A s ≠ 0)) = false := by
  cases hq : ns.all (fun s => decide (mget A s ≠ 0)) with
  | false => rfl
  | true => have := List.all_eq_true.1 hq ns[k] (List.getElem_mem _); simp [h0] at this
theorem done_true {ns : List ByteArray} {A : As} (h : ∀ i (hi : i < ns.length), mget A ns[i] ≠ 0) : ns.all (fun s => decide (mget A s ≠ 0)) = true := by
  rw [List.all_eq_true]
  intro s hs
  obtain ⟨i, hi, rfl⟩ := List.getElem_of_mem hs
  simp [h i hi]
theorem allT_false {xs : List V} {k : Nat} (h : k < xs.length) (h0 : xs[k].k ≠ 3) : allT xs = false := by
  cases hq : allT xs with
  | false => rfl
  | true => have := List.all_eq_true.1 hq xs[k] (List.getElem_mem _); simp [h0] at this
theorem allT_true {xs : List V} (h : ∀ i (hi : i < xs.length), xs[i].k = 3) : allT xs = true := by
  unfold allT
  rw [List.all_eq_true]
  intro s hs
  obtain ⟨i, hi, rfl⟩ := List.getElem_of_mem hs
  simp [h i hi]
theorem getV_wt (x : V) (name : ByteArray) : (getV x name).wt ≤ x.wt := by
  have hz : V.zero.wt ≤ x.wt := wt_pos x
  unfold getV
  split
  · exact hz
  · split
    · exact hz
    · rw [List.getD_eq_getElem?_getD]
      cases h : x.xs[(findI x.ns name).toNat]? with
      | none => exact hz
      | some y =>
        obtain ⟨hi, rfl⟩ := List.getElem?_eq_some_iff.1 h
        have h1 := wts_mem hi
        have h2 := wt_eq x
        simp only [Option.getD_some]; omega
def AB (n : Int) (A : As) : Prop := ∀ s, 0 ≤ mget A s ∧ mget A s ≤ n
theorem AB.nil : AB 0 [] := fun _ => ⟨Int.le_refl _, Int.le_refl _⟩
theorem AB.mono {m n : Int} {A : As} (h : AB m A) (hmn : m ≤ n) : AB n A := fun s => ⟨(h s).1, by have := (h s).2; omega⟩
theorem AB.tk {n : Int} {A : As} {x : V} {e : Int} {name : ByteArray} {ce : V → Int} (h : AB n A) : AB (n + 1) (tkA x A e name ce) := by
  unfold tkA
  split
  · intro s
    rw [mget_set]
    split
    · have := h name; omega
    · have := h s; omega
  · exact h.mono (by omega)
end Go.Eng
namespace Go.Eng
def PkF (w : World) (bo bm : Nat) : BSet := fun b o => Fr w b o ∧ b ∉ [bo, bm]
def PkAt (w W : World) (T : TypeId) (x : V) (A : As) (e : Int) (u : Value) : Prop :=
  ∃ bo bm cn ci, u = .pointer (some ⟨bo, 0, none⟩) ∧ w.heap.size ≤ bo ∧ w.heap.size ≤ bm ∧ bo ≠ bm ∧ Own W bo [.int .u8 x.k, .int .i64 x.n, .string x.t, cn, ci, .map (some bm), .int .i64 e] T ∧ OwnM W bm A ∧
    Rd W (PkF w bo bm) (strsD x.ns) cn ∧ Rd W (PkF w bo bm) (valsD x.xs) ci ∧ x.t.size ≤ maxLen
def PkD (w W : World) (T : TypeId) (e : Int) (u : Value) : Prop :=
  ∃ bo, u = .pointer (some ⟨bo, 0, none⟩) ∧ w.heap.size ≤ bo ∧ Own W bo [.int .u8 0, .int .i64 0, .string ⟨#[]⟩, .slice none 0 0, .slice none 0 0, .map none, .int .i64 e] T
def IsPk (w0 : World) (T : TypeId) (x : V) (A : As) (e : Int) : Fact := fun _ u W => PkAt w0 W T x A e u
theorem PkAt.ext {w W W' : World} {T : TypeId} {x : V} {A : As} {e : Int} {u : Value} (h : PkAt w W T x A e u) (k : Ext W W') : PkAt w W' T x A e u := by
  obtain ⟨bo, bm, cn, ci, h1, h2, h3, h4, h5, h6, h7, h8, h9⟩ := h
  exact ⟨bo, bm, cn, ci, h1, h2, h3, h4, h5.ext k, h6.ext k, h7.ext k, h8.ext k, h9⟩
theorem st_pk {w0 : World} {T : TypeId} {x : V} {A : As} {e : Int} : Stable All (IsPk w0 T x A e) := ⟨fun _ _ _ _ k h => PkAt.ext h k, fun _ _ _ _ _ _ h => h⟩
theorem pk_up {S : Nat → Prop} {w0 W W' : World} {T : TypeId} {x : V} {A : As} {e : Int} {u : Value} (hk : Keeps S w0 W) (h : PkAt W W' T x A e u) : PkAt w0 W' T x A e u := by
  obtain ⟨bo, bm, cn, ci, h1, h2, h3, h4, h5, h6, h7, h8, h9⟩ := h
  have up : ∀ b o, PkF W bo bm b o → b < W'.heap.size → PkF w0 bo bm b o := fun b o hb _ => ⟨⟨Nat.le_trans hk.size hb.1.1, hb.1.2⟩, hb.2⟩
  exact ⟨bo, bm, cn, ci, h1, Nat.le_trans hk.size h2, Nat.le_trans hk.size h3, h4, h5, h6, h7.mono up, h8.mono up, h9⟩
theorem pkd_up {S : Nat → Prop} {w0 W W' : World} {T : TypeId} {e : Int} {u : Value} (hk : Keeps S w0 W) (h : PkD W W' T e u) : PkD w0 W' T e u := by
  obtain ⟨bo, h1, h2, h3⟩ := h
  exact ⟨bo, h1, Nat.le_trans hk.size h2, h3⟩
theorem pk_data {S0 : Nat → Prop} {w W0 W : World} {bo bm : Nat} {M : List Nat} {d : D} {v : Value} (kw : Keeps S0 w W0) (hM : ∀ b ∈ M, b < W0.heap.size) (h : Rd W (PkF W0 bo bm) d v) : Rd W (SF w ([bo, bm] ++ M)) d v :=
  h.mono fun b _ hb _ => ⟨Nat.le_trans kw.size hb.1.1, hb.1.2, fun hm => (List.mem_append.1 hm).elim hb.2 fun h => by have := hM b h; have := hb.1.1; omega⟩
theorem sf_pkf {w W : World} {bo bm : Nat} {M : List Nat} {d : D} {v : Value} (hL : ∀ b ∈ [bo, bm], b ∈ M) (h : Rd W (SF w M) d v) : Rd W (PkF w bo bm) d v :=
  h.mono fun b _ hb _ => ⟨⟨hb.1, hb.2.1⟩, fun hm => hb.2.2 (hL b hm)⟩
def ofE (x : V) : Int := if x.k ≠ 5 then 10 else if x.ns.length ≠ x.xs.length ∨ asc x.ns = false then 3 else 0
theorem failK_dead {k : Nat} {e f : Int} (h : errK k e ≠ 0) : failK k e f = e := by rw [failK, if_neg h]
end Go.Eng
namespace Go.Eng
theorem rdl_at {W : World} {X : BSet} {b sz : Nat} : ∀ (ds : List D) (o i : Nat) (hi : i < ds.length), RdL W X b sz ds o → ∃ cs, RdC W X ds[i] cs
  | [], _, i, hi, _ => by simp at hi
  | d :: ds, o, 0, _, h => by simp only [RdL] at h; obtain ⟨⟨cs, _, _, h2⟩, _⟩ := h; exact ⟨cs, h2⟩
  | d :: ds, o, i + 1, hi, h => by simp only [RdL] at h; exact rdl_at ds _ i (by simpa using hi) h.2
end Go.Eng
namespace Go.Proofs.Ytnobijngkpflcaa
open Go.Eng
set_option maxRecDepth 100000 in
theorem pkText_ok (t : ByteArray) (w : World) : Calls Try.prog 37 #[.string t] w (Ret w fun u _ => u = .agg #[.int .u8 3, .int .i64 0, .string t, .slice none 0 0, .slice none 0 0]) := by
 refine enter Try.func37 rfl Try.ntmps37 (lbr rfl) fun a0 y0 zz0 harg => ?_
 have e0 : sl a0 0 = (.string (t)) := harg 0 (lbr rfl)
 have kw := Keeps.refl All w
 clear harg
 refine zq fun K1 hK1 => ?_
 refine rg mixed y0 zz0 ?_
 refine .alloc z33 ?_
 refine .dn fun a2 g W2 y2 zz2 hk hg hV hR hP => ?_
 obtain ⟨⟨b2_2, e2, hb2, own_b2_2⟩, -⟩ := hV
 have lo_b2_2 : w.heap.size ≤ b2_2 := Nat.le_trans kw.size (hg.lo _ _ hb2)
 have own_b2_2 : Own W2 b2_2 z5C 33 := own_b2_2
 replace e0 := ft hR e0
 replace kw := kw.x hk
 clear hR hk hg hP hb2
 refine zn (hK1 _ _ ?_)
 refine zq fun K3 hK3 => ?_
 refine rg mixed y2 zz2 ?_
 refine .mb rfl e0 ?_
 refine .i (v := (.agg #[(.int .u8 (3)), (.int .i64 (0)), (.string (t)), (.slice none 0 0), (.slice none 0 0)])) (sp_build (vs := [(0, (.int .u8 (3))), (2, (.string (t)))]) Try.underlying33 z33 (pl33 Try.underlying33) ⟨rfl, Has.cst, rfl, (hlc rfl), trivial⟩ rfl) ?_
 refine .dn fun a4 g W4 y4 zz4 hk hg hV hR hP => ?_
 obtain ⟨e4, -, -⟩ := hV
 replace e2 := ft hR e2
 replace e4 := e4.q
 replace own_b2_2 := own_b2_2.ext hk
 replace kw := kw.x hk
 clear hR hk hg hP
 refine tail_store e2 e4 sz33 rfl own_b2_2 (lbr rfl) (all_cons rfl (all_cons rfl (all_cons rfl (all_cons rfl (all_cons rfl all_nil))))) (fun W5 hs own_b2_2 => ?_)
 have own_b2_2 : Own W5 b2_2 [(.int .u8 (3)), (.int .i64 (0)), (.string (t)), (.slice none 0 0), (.slice none 0 0)] 33 := own_b2_2
 replace kw := keeps_store kw hs lo_b2_2
 clear hs
 refine zn (hK3 _ _ ?_)
 refine wp_ret ?_
 refine retC (v := (.agg #[(.int .u8 (3)), (.int .i64 (0)), (.string (t)), (.slice none 0 0), (.slice none 0 0)])) rfl zz4 e2 own_b2_2 agg33 sz33 rfl (fun h => by cases h) rfl ⟨_, rfl, kw, ?_⟩
 exact rfl
set_option maxRecDepth 100000 in
theorem pkNum_ok (n : Int) (w : World) : Calls Try.prog 39 #[.int .i64 n] w (Ret w fun u _ => u = .agg #[.int .u8 2, .int .i64 n, .string ⟨#[]⟩, .slice none 0 0, .slice none 0 0]) := by
 refine enter Try.func39 rfl Try.ntmps39 (lbr rfl) fun a0 y0 zz0 harg => ?_
 have e0 : sl a0 0 = (.int .i64 (n)) := harg 0 (lbr rfl)
 have kw := Keeps.refl All w
 clear harg
 refine zq fun K1 hK1 => ?_
 refine rg mixed y0 zz0 ?_
 refine .alloc z33 ?_
 refine .dn fun a2 g W2 y2 zz2 hk hg hV hR hP => ?_
 obtain ⟨⟨b2_2, e2, hb2, own_b2_2⟩, -⟩ := hV
 have lo_b2_2 : w.heap.size ≤ b2_2 := Nat.le_trans kw.size (hg.lo _ _ hb2)
 have own_b2_2 : Own W2 b2_2 z5C 33 := own_b2_2
 replace e0 := ft hR e0
 replace kw := kw.x hk
 clear hR hk hg hP hb2
 refine zn (hK1 _ _ ?_)
 refine zq fun K3 hK3 => ?_
 refine rg mixed y2 zz2 ?_
 refine .mb rfl e0 ?_
 refine .i (v := (.agg #[(.int .u8 (2)), (.int .i64 (n)), (.string (⟨#[]⟩)), (.slice none 0 0), (.slice none 0 0)])) (sp_build (vs := [(0, (.int .u8 (2))), (1, (.int .i64 (n)))]) Try.underlying33 z33 (pl33 Try.underlying33) ⟨rfl, Has.cst, rfl, (hlc rfl), trivial⟩ rfl) ?_
 refine .dn fun a4 g W4 y4 zz4 hk hg hV hR hP => ?_
 obtain ⟨e4, -, -⟩ := hV
 replace e2 := ft hR e2
 replace e4 := e4.q
 replace own_b2_2 := own_b2_2.ext hk
 replace kw := kw.x hk
 clear hR hk hg hP
 refine tail_store e2 e4 sz33 rfl own_b2_2 (lbr rfl) (all_cons rfl (all_cons rfl (all_cons rfl (all_cons rfl (all_cons rfl all_nil))))) (fun W5 hs own_b2_2 => ?_)
 have own_b2_2 : Own W5 b2_2 [(.int .u8 (2)), (.int .i64 (n)), (.string (⟨#[]⟩)), (.slice none 0 0), (.slice none 0 0)] 33 := own_b2_2
 replace kw := keeps_store kw hs lo_b2_2
 clear hs
 refine zn (hK3 _ _ ?_)
 refine wp_ret ?_
 refine retC (v := (.agg #[(.int .u8 (2)), (.int .i64 (n)), (.string (⟨#[]⟩)), (.slice none 0 0), (.slice none 0 0)])) rfl zz4 e2 own_b2_2 agg33 sz33 rfl (fun h => by cases h) rfl ⟨_, rfl, kw, ?_⟩
 exact rfl
end Go.Proofs.Ytnobijngkpflcaa
