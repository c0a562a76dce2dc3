/-
  The law RecordHashes of package legatelaw21 returns true for every input, and leaves its arguments as they were. No condition beyond the row's own.
-/
import Derived.Test.YtnobijngkpflcaaGreatRs1
import Derived.Sort.Walk0
import Derived.MapKept
namespace Go.Proofs.YtnobijngkpflcaaGreat
open Go.Eng
set_option maxRecDepth 100000 in
theorem ascending_ok (ns : List ByteArray) (w : World) (S : BSet) (v : Value) (hv : Rd w S (strsD ns) v) : Calls Tryz.prog 85 #[v] w (Ret w fun u _ => u = .bool (asc ns)) := by
 have hn : ns.length ≤ maxLen := rd_lenS hv
 simp only [maxLen] at hn
 obtain ⟨va, vc, ev, D_v⟩ := rdS_out (rd_arg hv)
 subst ev
 refine enter Tryz.func85 rfl Tryz.ntmps85 (lbr rfl) fun a0 y0 zz0 harg => ?_
 have e0 : sl a0 0 = (.slice va (ns.length) vc) := harg 0 (lbr rfl)
 have kw := Keeps.refl All w
 clear harg
 refine zq fun K1 hK1 => ?_
 refine rg mixed y0 zz0 ?_
 refine .ac ?_
 refine .dn fun a2 g W2 y2 zz2 hk hg hV hR hP => ?_
 obtain ⟨-, -⟩ := hV
 replace e0 := ft hR e0
 replace D_v := D_v.ext hk
 replace kw := kw.x hk
 clear hR hk hg hP
 refine zn (hK1 _ _ ?_)
 refine zq fun K3 hK3 => ?_
 refine zq fun K4 hK4 => ?_
 refine rg mixed y2 zz2 ?_
 refine .ac ?_
 refine .dn fun a5 g W5 y5 zz5 hk hg hV hR hP => ?_
 obtain ⟨e3, -⟩ := hV
 replace e0 := ft hR e0
 replace D_v := D_v.ext hk
 replace e3 := e3.q
 replace kw := kw.x hk
 clear hR hk hg hP
 refine zn (hK4 _ _ ?_)
 refine wp_block ?_
 refine wp_for (ns.length) (fun k a W => a.tmps.size = 20 ∧ a.defers = [] ∧ Keeps All w W ∧ sl a 0 = (.slice va (ns.length) vc) ∧ sl a 3 = (.int .i64 (((k + 1 : Nat) : Int))) ∧ Rd W (SA w S []) (strsD (ns)) (.slice va (ns.length) vc) ∧ (∀ i (h : i + 1 < ns.length), i < k → sLt ns[i] ns[i + 1] = true)) ⟨y5, zz5, kw, e0, (e3.trans (congrArg (Value.int .i64) (rfl))), D_v, fun i h hi => absurd hi (by omega)⟩ ?_
 clear kw e0 e3 D_v
 rintro k a6 W6 hkk ⟨y6, zz6, kw, e0, e3, D_v, hinv⟩
 refine zq fun K7 hK7 => ?_
 refine zq fun K8 hK8 => ?_
 refine rg mixed y6 zz6 ?_
 refine .mb rfl e3 ?_
 refine .mb rfl e0 ?_
 refine .i (sp_lenSs Tryz.underlying23 ((hlc rfl).dat D_v sub_all)) ?_
 refine .i (sp_lss (hlc rfl) (hlc rfl)) ?_
 refine .dn fun a9 g W9 y9 zz9 hk hg hV hR hP => ?_
 obtain ⟨e7, -, -, -, -⟩ := hV
 replace e0 := ft hR e0
 replace e3 := ft hR e3
 replace D_v := D_v.ext hk
 replace e7 := e7.q
 replace kw := kw.x hk
 clear hR hk hg hP
 refine zn (hK8 _ _ ?_)
 refine zc e7 (fun hc => ?_) (fun hc => ?_)
 ·
  have hlt : k + 1 < ns.length := by have := of_decide_eq_true hc; omega
  refine wp_skip (hK7 _ _ ?_)
  refine zq fun K10 hK10 => ?_
  refine wp_block ?_
  refine zq fun K11 hK11 => ?_
  refine rg mixed y9 zz9 ?_
  refine .mb rfl e0 ?_
  refine .mb rfl e3 ?_
  refine .i (sp_sub (hlc rfl) Has.cst (i64_in (by omega))) ?_
  refine .rf (sp_indexS (i := k) ((hlc rfl).dat D_v sub_all) (hlc rfl) Tryz.underlying23 sz9 (by omega) (by omega)) ?_
  refine .i (sp_loadStr (hlc rfl) agg9 sz9) ?_
  refine .mb rfl e0 ?_
  refine .mb rfl e3 ?_
  refine .rf (sp_indexS (i := (k + 1)) ((hlc rfl).dat D_v sub_all) (hlc rfl) Tryz.underlying23 sz9 rfl hlt) ?_
  refine .i (sp_loadStr (hlc rfl) agg9 sz9) ?_
  refine .i (sp_sGeq (hlc rfl) (hlc rfl)) ?_
  refine .dn fun a12 g W12 y12 zz12 hk hg hV hR hP => ?_
  obtain ⟨e19, -, -, -, -, -, -, -, -, -, -⟩ := hV
  replace e0 := ft hR e0
  replace e3 := ft hR e3
  replace D_v := D_v.ext hk
  replace e19 := e19.q
  replace kw := kw.x hk
  clear hR hk hg hP
  refine zn (hK11 _ _ ?_)
  refine zc e19 (fun hc => ?_) (fun hc => ?_)
  ·
   have hfin : asc ns = false := asc_false hlt (by simpa using hc)
   refine zq fun K13 hK13 => ?_
   refine rg mixed y12 zz12 ?_
   refine .ac ?_
   refine .dn fun a14 g W14 y14 zz14 hk hg hV hR hP => ?_
   obtain ⟨e2, -⟩ := hV
   replace D_v := D_v.ext hk
   replace e2 := e2.q
   replace kw := kw.x hk
   clear hR hk hg hP
   refine zn (hK13 _ _ ?_)
   refine wp_ret ?_
   refine ret1 rfl zz14 e2 ⟨_, rfl, kw, ?_⟩
   rw [hfin]
  have hk1 : sLt ns[k] ns[k + 1] = true := by simpa using hc
  refine wp_skip (hK10 _ _ ?_)
  refine rg mixed y12 zz12 ?_
  refine .mb rfl e3 ?_
  refine .i (sp_add (hlc rfl) Has.cst (i64_in (by omega))) ?_
  refine .al rfl ?_
  refine .dn fun a15 g W15 y15 zz15 hk hg hV hR hP => ?_
  obtain ⟨e3, -, -, -⟩ := hV
  replace e0 := ft hR e0
  replace D_v := D_v.ext hk
  replace e3 := e3.q
  replace kw := kw.x hk
  clear hR hk hg hP
  exact tail_nil ⟨by omega, y15, zz15, kw, e0, (e3.trans (congrArg (Value.int .i64) (by omega))), D_v, fun i h hi => by rcases Nat.lt_succ_iff_lt_or_eq.1 hi with h1 | h1; exact hinv i h h1; subst h1; exact hk1⟩
 have hge : ¬ k + 1 < ns.length := by have := of_decide_eq_false hc; omega
 have hfin : asc ns = true := (asc_iff ns).2 fun i hi => hinv i hi (by omega)
 refine wp_exit (hK3 _ _ ?_)
 refine zq fun K16 hK16 => ?_
 refine rg mixed y9 zz9 ?_
 refine .ac ?_
 refine .dn fun a17 g W17 y17 zz17 hk hg hV hR hP => ?_
 obtain ⟨e2, -⟩ := hV
 replace D_v := D_v.ext hk
 replace e2 := e2.q
 replace kw := kw.x hk
 clear hR hk hg hP
 refine zn (hK16 _ _ ?_)
 refine wp_ret ?_
 refine ret1 rfl zz17 e2 ⟨_, rfl, kw, ?_⟩
 rw [hfin]
end Go.Proofs.YtnobijngkpflcaaGreat
namespace Go.Proofs.YtnobijngkpflcaaGreat
open Go.Eng
set_option maxRecDepth 100000 in
theorem size_all : ∀ (n : Nat) (xs : List V), V.cnts xs < n → ∀ (deep : Nat), deep ≤ 201 → ∀ (w : World) (S : BSet) (v : Value), Rd w S (valsD xs) v → Calls Tryz.prog 20 #[v, .int .i64 deep] w (Ret w fun u _ => u = .int .i64 (szL xs deep 0)) := by
 intro n
 induction n with
 | zero => intro xs hx; omega
 | succ n ih =>
 intro xs hx deep hdeep w S v hv
 have hmx : xs.length ≤ maxLen := rd_len hv
 simp only [maxLen] at hmx
 obtain ⟨va, vc, ev, D_v⟩ := rdVs_out (rd_arg hv)
 subst ev
 refine enter Tryz.func20 rfl Tryz.ntmps20 (lbr rfl) fun a0 y0 zz0 harg => ?_
 have e0 : sl a0 0 = (.slice va (xs.length) vc) := harg 0 (lbr rfl)
 have e1 : sl a0 1 = (.int .i64 ((deep : Nat))) := harg 1 (lbr rfl)
 have kw := Keeps.refl All w
 clear harg
 refine zq fun K1 hK1 => ?_
 refine rg mixed y0 zz0 ?_
 refine .ac ?_
 refine .dn fun a2 g W2 y2 zz2 hk hg hV hR hP => ?_
 obtain ⟨-, -⟩ := hV
 replace e0 := ft hR e0
 replace e1 := ft hR e1
 replace D_v := D_v.ext hk
 replace kw := kw.x hk
 clear hR hk hg hP
 refine zn (hK1 _ _ ?_)
 refine zq fun K3 hK3 => ?_
 refine rg mixed y2 zz2 ?_
 refine .ac ?_
 refine .dn fun a4 g W4 y4 zz4 hk hg hV hR hP => ?_
 obtain ⟨e5, -⟩ := hV
 replace e0 := ft hR e0
 replace e1 := ft hR e1
 replace D_v := D_v.ext hk
 replace e5 := e5.q
 replace kw := kw.x hk
 clear hR hk hg hP
 refine zn (hK3 _ _ ?_)
 refine zq fun K5 hK5 => ?_
 refine zq fun K6 hK6 => ?_
 refine rg mixed y4 zz4 ?_
 refine .ac ?_
 refine .dn fun a7 g W7 y7 zz7 hk hg hV hR hP => ?_
 obtain ⟨e6, -⟩ := hV
 replace e0 := ft hR e0
 replace e1 := ft hR e1
 replace e5 := ft hR e5
 replace D_v := D_v.ext hk
 replace e6 := e6.q
 replace kw := kw.x hk
 clear hR hk hg hP
 refine zn (hK6 _ _ ?_)
 refine wp_block ?_
 refine wp_for (xs.length) (fun k a W => ∃ (n2 : Nat), a.tmps.size = 68 ∧ a.defers = [] ∧ Keeps All w W ∧ sl a 0 = (.slice va (xs.length) vc) ∧ sl a 1 = (.int .i64 ((deep : Nat))) ∧ sl a 5 = (.int .i64 ((n2 : Nat))) ∧ sl a 6 = (.int .i64 ((k : Nat))) ∧ Rd W (SA w S []) (valsD (xs)) (.slice va (xs.length) vc) ∧ (szL xs deep 0 = szL (xs.drop k) deep n2)) ⟨0, y7, zz7, kw, e0, e1, (e5.trans (congrArg (Value.int .i64) (rfl))), (e6.trans (congrArg (Value.int .i64) (rfl))), D_v, rfl⟩ ?_
 clear kw e0 e1 e5 e6 D_v
 rintro k a8 W8 hkk ⟨n2, y8, zz8, kw, e0, e1, e5, e6, D_v, hin⟩
 refine zq fun K9 hK9 => ?_
 refine zq fun K10 hK10 => ?_
 refine rg mixed y8 zz8 ?_
 refine .mb rfl e6 ?_
 refine .mb rfl e0 ?_
 refine .i (sp_lenVs Tryz.underlying24 ((hlc rfl).dat D_v sub_all)) ?_
 refine .i (sp_lss (hlc rfl) (hlc rfl)) ?_
 refine .i (sp_move (hlc rfl)) ?_
 refine .em rfl (hlc rfl) rfl e5 ?_
 refine .e rfl (hlc rfl) (fun hg => sp_lss ((hlc rfl).undE hg) Has.cst) ?_
 refine .i (sp_and (hlc rfl) ((hlc rfl).weak fun hq => hq)) ?_
 refine .dn fun a11 g W11 y11 zz11 hk hg hV hR hP => ?_
 obtain ⟨e15, -, -, -, -, -, -, -, -⟩ := hV
 replace e0 := ft hR e0
 replace e1 := ft hR e1
 replace e5 := ft hR e5
 replace e6 := ft hR e6
 replace D_v := D_v.ext hk
 replace e15 := e15.q
 replace kw := kw.x hk
 clear hR hk hg hP
 refine zn (hK10 _ _ ?_)
 refine zc e15 (fun hc => ?_) (fun hc => ?_)
 ·
  simp at hc
  obtain ⟨hlt, hn2i⟩ := hc
  have hn2 : n2 < 20000 := by omega
  have hdr := List.drop_eq_getElem_cons hlt
  have hce := cnt_elem hlt
  have hcq := cnt_eq xs[k]
  rw [hdr, szL, if_pos hn2] at hin
  have hmn : (xs[k]).ns.length ≤ maxLen := rd_ns hv hlt
  simp only [maxLen] at hmn
  refine wp_skip (hK9 _ _ ?_)
  refine zq fun K12 hK12 => ?_
  refine wp_block ?_
  refine zq fun K13 hK13 => ?_
  refine rg mixed y11 zz11 ?_
  refine .mb rfl e5 ?_
  refine .i (sp_add (hlc rfl) Has.cst (i64_in (by omega))) ?_
  refine .mb rfl e0 ?_
  refine .mb rfl e6 ?_
  refine .rf (sp_indexV (i := k) ((hlc rfl).dat D_v sub_all) (hlc rfl) Tryz.underlying24 sz26 rfl hlt) ?_
  refine .rf (X := SA w S []) (e := D.str ((xs[k]'hlt).t)) (sp_fieldV (hlc rfl) Tryz.underlying26 rfl sz9 rfl rfl) ?_
  refine .i (sp_loadStr (hlc rfl) agg9 sz9) ?_
  refine .i (sp_lenS Tryz.underlying9 (hlc rfl)) ?_
  refine .i (sp_min Has.cst (hlc rfl)) ?_
  refine .i (sp_add (hlc rfl) (hlc rfl) (i64_in (by omega))) ?_
  refine .al rfl ?_
  refine .dn fun a14 g W14 y14 zz14 hk hg hV hR hP => ?_
  obtain ⟨e5, -, -, -, -, -, -, -, -, -, -, -⟩ := hV
  replace e0 := ft hR e0
  replace e1 := ft hR e1
  replace e6 := ft hR e6
  replace D_v := D_v.ext hk
  replace e5 := e5.q
  replace kw := kw.x hk
  clear hR hk hg hP
  refine zn (hK13 _ _ ?_)
  refine zq fun K15 hK15 => ?_
  refine zq fun K16 hK16 => ?_
  refine rg mixed y14 zz14 ?_
  refine .ac ?_
  refine .dn fun a17 g W17 y17 zz17 hk hg hV hR hP => ?_
  obtain ⟨e7, -⟩ := hV
  replace e0 := ft hR e0
  replace e1 := ft hR e1
  replace e5 := ft hR e5
  replace e6 := ft hR e6
  replace D_v := D_v.ext hk
  replace e7 := e7.q
  replace kw := kw.x hk
  clear hR hk hg hP
  refine zn (hK16 _ _ ?_)
  refine wp_block ?_
  refine wp_for ((xs[k]'hlt).ns.length) (fun j a W => ∃ (n3 : Nat), a.tmps.size = 68 ∧ a.defers = [] ∧ Keeps All w W ∧ sl a 0 = (.slice va (xs.length) vc) ∧ sl a 1 = (.int .i64 ((deep : Nat))) ∧ sl a 5 = (.int .i64 ((n3 : Nat))) ∧ sl a 6 = (.int .i64 ((k : Nat))) ∧ sl a 7 = (.int .i64 ((j : Nat))) ∧ Rd W (SA w S []) (valsD (xs)) (.slice va (xs.length) vc) ∧ (szN (xs[k]'hlt).ns (n2 + 4 + min 20000 (xs[k]'hlt).t.size) = szN ((xs[k]'hlt).ns.drop j) n3)) ⟨(n2 + 4 + min 20000 (xs[k]'hlt).t.size), y17, zz17, kw, e0, e1, (e5.trans (congrArg (Value.int .i64) (by push_cast; omega))), e6, (e7.trans (congrArg (Value.int .i64) (rfl))), D_v, rfl⟩ ?_
  clear kw e0 e1 e5 e6 e7 D_v
  rintro j a18 W18 hkj ⟨n3, y18, zz18, kw, e0, e1, e5, e6, e7, D_v, hin2⟩
  refine zq fun K19 hK19 => ?_
  refine zq fun K20 hK20 => ?_
  refine rg mixed y18 zz18 ?_
  refine .mb rfl e7 ?_
  refine .mb rfl e0 ?_
  refine .mb rfl e6 ?_
  refine .rf (sp_indexV (i := k) ((hlc rfl).dat D_v sub_all) (hlc rfl) Tryz.underlying24 sz26 rfl hlt) ?_
  refine .rf (X := SA w S []) (e := strsD ((xs[k]'hlt).ns)) (sp_fieldV (hlc rfl) Tryz.underlying26 rfl sz23 rfl rfl) ?_
  refine .da (X := SA w S []) (e := strsD ((xs[k]'hlt).ns)) (sp_loadR (hlc rfl) agg23 sz23 rfl) ?_
  refine .i (sp_lenSs Tryz.underlying23 (hlc rfl)) ?_
  refine .i (sp_lss (hlc rfl) (hlc rfl)) ?_
  refine .i (sp_move (hlc rfl)) ?_
  refine .em rfl (hlc rfl) rfl e5 ?_
  refine .e rfl (hlc rfl) (fun hg => sp_lss ((hlc rfl).undE hg) Has.cst) ?_
  refine .i (sp_and (hlc rfl) ((hlc rfl).weak fun hq => hq)) ?_
  refine .dn fun a21 g W21 y21 zz21 hk hg hV hR hP => ?_
  obtain ⟨e39, -, -, -, -, -, -, -, -, -, -, -, -⟩ := hV
  replace e0 := ft hR e0
  replace e1 := ft hR e1
  replace e5 := ft hR e5
  replace e6 := ft hR e6
  replace e7 := ft hR e7
  replace D_v := D_v.ext hk
  replace e39 := e39.q
  replace kw := kw.x hk
  clear hR hk hg hP
  refine zn (hK20 _ _ ?_)
  refine zc e39 (fun hc => ?_) (fun hc => ?_)
  ·
   simp at hc
   obtain ⟨hltj, hn3i⟩ := hc
   have hn3 : n3 < 20000 := by omega
   have hdj := List.drop_eq_getElem_cons hltj
   rw [hdj, szN, if_pos hn3] at hin2
   refine wp_skip (hK19 _ _ ?_)
   refine zq fun K22 hK22 => ?_
   refine wp_block ?_
   refine rg mixed y21 zz21 ?_
   refine .mb rfl e5 ?_
   refine .i (sp_add (hlc rfl) Has.cst (i64_in (by omega))) ?_
   refine .mb rfl e0 ?_
   refine .mb rfl e6 ?_
   refine .rf (sp_indexV (i := k) ((hlc rfl).dat D_v sub_all) (hlc rfl) Tryz.underlying24 sz26 rfl hlt) ?_
   refine .rf (X := SA w S []) (e := strsD ((xs[k]'hlt).ns)) (sp_fieldV (hlc rfl) Tryz.underlying26 rfl sz23 rfl rfl) ?_
   refine .da (X := SA w S []) (e := strsD ((xs[k]'hlt).ns)) (sp_loadR (hlc rfl) agg23 sz23 rfl) ?_
   refine .mb rfl e7 ?_
   refine .rf (sp_indexS (i := j) (hlc rfl) (hlc rfl) Tryz.underlying23 sz9 rfl hltj) ?_
   refine .i (sp_loadStr (hlc rfl) agg9 sz9) ?_
   refine .i (sp_lenS Tryz.underlying9 (hlc rfl)) ?_
   refine .i (sp_min Has.cst (hlc rfl)) ?_
   refine .i (sp_add (hlc rfl) (hlc rfl) (i64_in (by omega))) ?_
   refine .al rfl ?_
   refine .dn fun a23 g W23 y23 zz23 hk hg hV hR hP => ?_
   obtain ⟨e5, -, -, -, -, -, -, -, -, -, -, -, -, -, -⟩ := hV
   replace e0 := ft hR e0
   replace e1 := ft hR e1
   replace e6 := ft hR e6
   replace e7 := ft hR e7
   replace D_v := D_v.ext hk
   replace e5 := e5.q
   replace kw := kw.x hk
   clear hR hk hg hP
   refine zn (hK22 _ _ ?_)
   refine rg mixed y23 zz23 ?_
   refine .mb rfl e7 ?_
   refine .i (sp_add (hlc rfl) Has.cst (i64_in (by omega))) ?_
   refine .al rfl ?_
   refine .dn fun a24 g W24 y24 zz24 hk hg hV hR hP => ?_
   obtain ⟨e7, -, -, -⟩ := hV
   replace e0 := ft hR e0
   replace e1 := ft hR e1
   replace e5 := ft hR e5
   replace e6 := ft hR e6
   replace D_v := D_v.ext hk
   replace e7 := e7.q
   replace kw := kw.x hk
   clear hR hk hg hP
   exact tail_nil ⟨hltj, (n3 + 2 + min 20000 ((xs[k]'hlt).ns[j]'hltj).size), y24, zz24, kw, e0, e1, (e5.trans (congrArg (Value.int .i64) (by push_cast; omega))), e6, (e7.trans (congrArg (Value.int .i64) (by simp))), D_v, hin2⟩
  have hfn : szN (xs[k]'hlt).ns (n2 + 4 + min 20000 (xs[k]'hlt).t.size) = n3 := by
   rw [hin2]; simp at hc
   by_cases hltj : j < (xs[k]'hlt).ns.length
   · exact szN_big _ (by have := hc hltj; omega)
   · rw [List.drop_eq_nil_of_le (by omega)]; rfl
  have hsv := szV_eq (xs[k]'hlt) deep n2
  rw [hfn] at hsv
  have hs1 := (szN_le (xs[k]'hlt).ns (n2 + 4 + min 20000 (xs[k]'hlt).t.size)).2
  rw [hfn] at hs1
  have hs2 := szL_top (xs[k]'hlt).xs (deep + 1) 0
  refine wp_exit (hK15 _ _ ?_)
  refine zq fun K25 hK25 => ?_
  refine zq fun K26 hK26 => ?_
  refine rg mixed y21 zz21 ?_
  refine .mb rfl e1 ?_
  refine .i (sp_gtr (hlc rfl) Has.cst) ?_
  refine .dn fun a27 g W27 y27 zz27 hk hg hV hR hP => ?_
  obtain ⟨e56, -, -⟩ := hV
  replace e0 := ft hR e0
  replace e1 := ft hR e1
  replace e5 := ft hR e5
  replace e6 := ft hR e6
  replace D_v := D_v.ext hk
  replace e56 := e56.q
  replace kw := kw.x hk
  clear hR hk hg hP
  refine zn (hK26 _ _ ?_)
  refine zc e56 (fun hc => ?_) (fun hc => ?_)
  ·
   have hdd : 200 < deep := by have := of_decide_eq_true hc; omega
   rw [if_pos hdd] at hin
   refine zq fun K28 hK28 => ?_
   refine rg mixed y27 zz27 ?_
   refine .ac ?_
   refine .dn fun a29 g W29 y29 zz29 hk hg hV hR hP => ?_
   obtain ⟨e4, -⟩ := hV
   replace D_v := D_v.ext hk
   replace e4 := e4.q
   replace kw := kw.x hk
   clear hR hk hg hP
   refine zn (hK28 _ _ ?_)
   refine wp_ret ?_
   refine ret1 rfl zz29 e4 ⟨_, rfl, kw, ?_⟩
   first | rw [hfin] | (rw [hin]; rfl)
  have hdd : ¬ 200 < deep := by have := of_decide_eq_false hc; omega
  rw [if_neg hdd, hsv] at hin
  have hs3 := hs2 (by omega)
  refine wp_skip (hK25 _ _ ?_)
  refine rg mixed y27 zz27 ?_
  refine .mb rfl e5 ?_
  refine .mb rfl e0 ?_
  refine .mb rfl e6 ?_
  refine .rf (sp_indexV (i := k) ((hlc rfl).dat D_v sub_all) (hlc rfl) Tryz.underlying24 sz26 rfl hlt) ?_
  refine .rf (X := SA w S []) (e := valsD ((xs[k]'hlt).xs)) (sp_fieldV (hlc rfl) Tryz.underlying26 rfl sz24 rfl rfl) ?_
  refine .da (X := SA w S []) (e := valsD ((xs[k]'hlt).xs)) (sp_loadR (hlc rfl) agg24 sz24 rfl) ?_
  refine .mb rfl e1 ?_
  refine .i (sp_add (hlc rfl) Has.cst (i64_in (by omega))) ?_
  refine .i (v := (.int .i64 (szL ((xs[k]'hlt).xs) (deep + 1) 0))) (sp_call2 (φ1 := IsD (SA w S []) (valsD ((xs[k]'hlt).xs))) (φ2 := Is (.int .i64 (((deep : Nat) : Int) + (1 : Int)))) ent20 (hlc rfl) (hlc rfl) (fun g u1 u2 W hk hgk h1 h2 => by have h2 : u2 = _ := h2; subst u2; exact ih ((xs[k]'hlt).xs) (by omega) (deep + 1) (by omega) W _ _ h1)) ?_
  refine .i (sp_add (hlc rfl) (hlc rfl) (i64_in (by omega))) ?_
  refine .al rfl ?_
  refine .dn fun a30 g W30 y30 zz30 hk hg hV hR hP => ?_
  obtain ⟨e5, -, -, -, -, -, -, -, -, -, -, -⟩ := hV
  replace e0 := ft hR e0
  replace e1 := ft hR e1
  replace e6 := ft hR e6
  replace D_v := D_v.ext hk
  replace e5 := e5.q
  replace kw := kw.x hk
  clear hR hk hg hP
  refine zn (hK12 _ _ ?_)
  refine rg mixed y30 zz30 ?_
  refine .mb rfl e6 ?_
  refine .i (sp_add (hlc rfl) Has.cst (i64_in (by omega))) ?_
  refine .al rfl ?_
  refine .dn fun a31 g W31 y31 zz31 hk hg hV hR hP => ?_
  obtain ⟨e6, -, -, -⟩ := hV
  replace e0 := ft hR e0
  replace e1 := ft hR e1
  replace e5 := ft hR e5
  replace D_v := D_v.ext hk
  replace e6 := e6.q
  replace kw := kw.x hk
  clear hR hk hg hP
  exact tail_nil ⟨hlt, (n3 + szL (xs[k]'hlt).xs (deep + 1) 0), y31, zz31, kw, e0, e1, (e5.trans (congrArg (Value.int .i64) (by push_cast; omega))), (e6.trans (congrArg (Value.int .i64) (by simp))), D_v, hin⟩
 have hfin : szL xs deep 0 = n2 := by
  rw [hin]; simp at hc
  by_cases hlt : k < xs.length
  · exact szL_big _ _ (by have := hc hlt; omega)
  · rw [List.drop_eq_nil_of_le (by omega)]; rfl
 refine wp_exit (hK5 _ _ ?_)
 refine zq fun K32 hK32 => ?_
 refine rg mixed y11 zz11 ?_
 refine .mb rfl e5 ?_
 refine .al rfl ?_
 refine .dn fun a33 g W33 y33 zz33 hk hg hV hR hP => ?_
 obtain ⟨e4, -, -⟩ := hV
 replace D_v := D_v.ext hk
 replace e4 := e4.q
 replace kw := kw.x hk
 clear hR hk hg hP
 refine zn (hK32 _ _ ?_)
 refine wp_ret ?_
 refine ret1 rfl zz33 e4 ⟨_, rfl, kw, ?_⟩
 first | rw [hfin] | (rw [hin]; rfl)
set_option maxRecDepth 100000 in
theorem Long_ok (xs : List V) (w : World) (S : BSet) (v : Value) (hv : Rd w S (valsD xs) v) : Calls Tryz.prog 5 #[v] w (Ret w fun u _ => u = .bool (decide (20000 ≤ szL xs 0 0))) := by
 obtain ⟨va, vc, ev, D_v⟩ := rdVs_out (rd_arg hv)
 subst ev
 refine enter Tryz.func5 rfl Tryz.ntmps5 (lbr rfl) fun a0 y0 zz0 harg => ?_
 have e0 : sl a0 0 = (.slice va (xs.length) vc) := harg 0 (lbr rfl)
 have kw := Keeps.refl All w
 clear harg
 refine zq fun K1 hK1 => ?_
 refine rg mixed y0 zz0 ?_
 refine .ac ?_
 refine .dn fun a2 g W2 y2 zz2 hk hg hV hR hP => ?_
 obtain ⟨-, -⟩ := hV
 replace e0 := ft hR e0
 replace D_v := D_v.ext hk
 replace kw := kw.x hk
 clear hR hk hg hP
 refine zn (hK1 _ _ ?_)
 refine zq fun K3 hK3 => ?_
 refine rg mixed y2 zz2 ?_
 refine .mb rfl e0 ?_
 refine .i (v := (.int .i64 (szL (xs) 0 0))) (sp_call2 (φ1 := IsD (SA w S []) (valsD (xs))) (φ2 := Is (.int .i64 (0))) ent20 ((hlc rfl).dat D_v sub_all) Has.cst (fun g u1 u2 W hk hgk h1 h2 => by have h2 : u2 = _ := h2; subst u2; exact size_all _ (xs) (Nat.lt_succ_self _) 0 (by omega) W _ _ h1)) ?_
 refine .i (sp_geq (hlc rfl) Has.cst) ?_
 refine .al rfl ?_
 refine .dn fun a4 g W4 y4 zz4 hk hg hV hR hP => ?_
 obtain ⟨e2, -, -, -, -⟩ := hV
 replace D_v := D_v.ext hk
 replace e2 := e2.q
 replace kw := kw.x hk
 clear hR hk hg hP
 refine zn (hK3 _ _ ?_)
 refine wp_ret ?_
 refine ret1 rfl zz4 e2 ⟨_, rfl, kw, ?_⟩
 congr 1; exact decide_eq_decide.2 (by omega)
set_option maxRecDepth 100000 in
theorem equal_ok (ns ms : List ByteArray) (w : World) (S : BSet) (v u : Value) (hv : Rd w S (strsD ns) v) (hu : Rd w S (strsD ms) u) : Calls Tryz.prog 79 #[v, u] w (Ret w fun u _ => u = .bool (decide (ns = ms))) := by
 have hl1 := rd_lenS hv
 have hl2 := rd_lenS hu
 simp only [maxLen] at hl1 hl2
 obtain ⟨va, vc, ev, D_v⟩ := rdS_out (rd_arg hv)
 subst ev
 obtain ⟨ua, uc, ev, D_u⟩ := rdS_out (rd_arg hu)
 subst ev
 refine enter Tryz.func79 rfl Tryz.ntmps79 (lbr rfl) fun a0 y0 zz0 harg => ?_
 have e0 : sl a0 0 = (.slice va (ns.length) vc) := harg 0 (lbr rfl)
 have e1 : sl a0 1 = (.slice ua (ms.length) uc) := harg 1 (lbr rfl)
 have kw := Keeps.refl All w
 clear harg
 refine zq fun K1 hK1 => ?_
 refine rg mixed y0 zz0 ?_
 refine .ac ?_
 refine .dn fun a2 g W2 y2 zz2 hk hg hV hR hP => ?_
 obtain ⟨-, -⟩ := hV
 replace e0 := ft hR e0
 replace e1 := ft hR e1
 replace D_v := D_v.ext hk
 replace D_u := D_u.ext hk
 replace kw := kw.x hk
 clear hR hk hg hP
 refine zn (hK1 _ _ ?_)
 refine zq fun K3 hK3 => ?_
 refine zq fun K4 hK4 => ?_
 refine rg mixed y2 zz2 ?_
 refine .mb rfl e0 ?_
 refine .i (sp_lenSs Tryz.underlying23 ((hlc rfl).dat D_v sub_all)) ?_
 refine .mb rfl e1 ?_
 refine .i (sp_lenSs Tryz.underlying23 ((hlc rfl).dat D_u sub_all)) ?_
 refine .i (sp_neq (hlc rfl) (hlc rfl)) ?_
 refine .dn fun a5 g W5 y5 zz5 hk hg hV hR hP => ?_
 obtain ⟨e10, -, -, -, -, -⟩ := hV
 replace e0 := ft hR e0
 replace e1 := ft hR e1
 replace D_v := D_v.ext hk
 replace D_u := D_u.ext hk
 replace e10 := e10.q
 replace kw := kw.x hk
 clear hR hk hg hP
 refine zn (hK4 _ _ ?_)
 refine zc e10 (fun hc => ?_) (fun hc => ?_)
 ·
  have hfin : decide (ns = ms) = false := decide_eq_false fun h => by subst h; simp at hc
  refine zq fun K6 hK6 => ?_
  refine rg mixed y5 zz5 ?_
  refine .ac ?_
  refine .dn fun a7 g W7 y7 zz7 hk hg hV hR hP => ?_
  obtain ⟨e4, -⟩ := hV
  replace D_v := D_v.ext hk
  replace D_u := D_u.ext hk
  replace e4 := e4.q
  replace kw := kw.x hk
  clear hR hk hg hP
  refine zn (hK6 _ _ ?_)
  refine wp_ret ?_
  refine ret1 rfl zz7 e4 ⟨_, rfl, kw, ?_⟩
  rw [hfin]
 have hll : ns.length = ms.length := by simp at hc; omega
 refine wp_skip (hK3 _ _ ?_)
 refine zq fun K8 hK8 => ?_
 refine zq fun K9 hK9 => ?_
 refine rg mixed y5 zz5 ?_
 refine .mb rfl e0 ?_
 refine .i (sp_lenSs Tryz.underlying23 ((hlc rfl).dat D_v sub_all)) ?_
 refine .i (sp_move Has.cst) ?_
 refine .dn fun a10 g W10 y10 zz10 hk hg hV hR hP => ?_
 obtain ⟨e13, e12, -, -⟩ := hV
 replace e0 := ft hR e0
 replace e1 := ft hR e1
 replace D_v := D_v.ext hk
 replace D_u := D_u.ext hk
 replace e12 := e12.q
 replace e13 := e13.q
 replace kw := kw.x hk
 clear hR hk hg hP
 refine zn (hK9 _ _ ?_)
 refine wp_block ?_
 refine wp_for (ns.length) (fun k a W => a.tmps.size = 26 ∧ a.defers = [] ∧ Keeps All w W ∧ sl a 0 = (.slice va (ns.length) vc) ∧ sl a 1 = (.slice ua (ms.length) uc) ∧ sl a 12 = (.int .i64 (ns.length)) ∧ sl a 13 = (.int .i64 ((k : Nat))) ∧ Rd W (SA w S []) (strsD (ns)) (.slice va (ns.length) vc) ∧ Rd W (SA w S []) (strsD (ms)) (.slice ua (ms.length) uc) ∧ (∀ i (h1 : i < ns.length) (h2 : i < ms.length), i < k → ns[i] = ms[i])) ⟨y10, zz10, kw, e0, e1, e12, (e13.trans (congrArg (Value.int .i64) (rfl))), D_v, D_u, fun i h1 h2 hi => absurd hi (by omega)⟩ ?_
 clear kw e0 e1 e12 e13 D_v D_u
 rintro k a11 W11 hkk ⟨y11, zz11, kw, e0, e1, e12, e13, D_v, D_u, hinv⟩
 refine zq fun K12 hK12 => ?_
 refine rg mixed y11 zz11 ?_
 refine .i (sp_lss (hbs rfl e13) (hbs rfl e12)) ?_
 refine .dn fun a13 g W13 y13 zz13 hk hg hV hR hP => ?_
 obtain ⟨e14, -⟩ := hV
 replace e0 := ft hR e0
 replace e1 := ft hR e1
 replace e12 := ft hR e12
 replace e13 := ft hR e13
 replace D_v := D_v.ext hk
 replace D_u := D_u.ext hk
 replace e14 := e14.q
 replace kw := kw.x hk
 clear hR hk hg hP
 refine zn (hK12 _ _ ?_)
 refine zq fun K14 hK14 => ?_
 refine zc e14 (fun hc => ?_) (fun hc => ?_)
 ·
  have hlt : k < ns.length := by simpa using hc
  refine wp_skip (hK14 _ _ ?_)
  refine zq fun K15 hK15 => ?_
  refine wp_block ?_
  refine zq fun K16 hK16 => ?_
  refine rg mixed y13 zz13 ?_
  refine .mb rfl e13 ?_
  refine .al rfl ?_
  refine .dn fun a17 g W17 y17 zz17 hk hg hV hR hP => ?_
  obtain ⟨e5, -, -⟩ := hV
  replace e0 := ft hR e0
  replace e1 := ft hR e1
  replace e12 := ft hR e12
  replace e13 := ft hR e13
  replace D_v := D_v.ext hk
  replace D_u := D_u.ext hk
  replace e5 := e5.q
  replace kw := kw.x hk
  clear hR hk hg hP
  refine zn (hK16 _ _ ?_)
  refine zq fun K18 hK18 => ?_
  refine rg mixed y17 zz17 ?_
  refine .mb rfl e0 ?_
  refine .mb rfl e5 ?_
  refine .rf (sp_indexS (i := k) ((hlc rfl).dat D_v sub_all) (hlc rfl) Tryz.underlying23 sz9 rfl hlt) ?_
  refine .i (sp_loadStr (hlc rfl) agg9 sz9) ?_
  refine .mb rfl e1 ?_
  refine .mb rfl e5 ?_
  refine .rf (sp_indexS (i := k) ((hlc rfl).dat D_u sub_all) (hlc rfl) Tryz.underlying23 sz9 rfl (by omega)) ?_
  refine .i (sp_loadStr (hlc rfl) agg9 sz9) ?_
  refine .i (sp_sNeq (hlc rfl) (hlc rfl)) ?_
  refine .dn fun a19 g W19 y19 zz19 hk hg hV hR hP => ?_
  obtain ⟨e24, -, -, -, -, -, -, -, -, -⟩ := hV
  replace e0 := ft hR e0
  replace e1 := ft hR e1
  replace e12 := ft hR e12
  replace e13 := ft hR e13
  replace D_v := D_v.ext hk
  replace D_u := D_u.ext hk
  replace e24 := e24.q
  replace kw := kw.x hk
  clear hR hk hg hP
  refine zn (hK18 _ _ ?_)
  refine zc e24 (fun hc => ?_) (fun hc => ?_)
  ·
   have hfin : decide (ns = ms) = false := decide_eq_false fun h => by subst h; simp at hc
   refine zq fun K20 hK20 => ?_
   refine rg mixed y19 zz19 ?_
   refine .ac ?_
   refine .dn fun a21 g W21 y21 zz21 hk hg hV hR hP => ?_
   obtain ⟨e4, -⟩ := hV
   replace D_v := D_v.ext hk
   replace D_u := D_u.ext hk
   replace e4 := e4.q
   replace kw := kw.x hk
   clear hR hk hg hP
   refine zn (hK20 _ _ ?_)
   refine wp_ret ?_
   refine ret1 rfl zz21 e4 ⟨_, rfl, kw, ?_⟩
   rw [hfin]
  have hk1 : ns[k] = ms[k] := by simpa using hc
  refine wp_skip (hK15 _ _ ?_)
  refine rg mixed y19 zz19 ?_
  refine .i (sp_add (hbs rfl e13) Has.cst (i64_in (by omega))) ?_
  refine .i (sp_move (hlc rfl)) ?_
  refine .dn fun a22 g W22 y22 zz22 hk hg hV hR hP => ?_
  obtain ⟨e13, -, -⟩ := hV
  replace e0 := ft hR e0
  replace e1 := ft hR e1
  replace e12 := ft hR e12
  replace D_v := D_v.ext hk
  replace D_u := D_u.ext hk
  replace e13 := e13.q
  replace kw := kw.x hk
  clear hR hk hg hP
  exact tail_nil ⟨hlt, y22, zz22, kw, e0, e1, e12, (e13.trans (congrArg (Value.int .i64) (by simp))), D_v, D_u, fun i h1 h2 hi => by rcases Nat.lt_succ_iff_lt_or_eq.1 hi with h | h; exact hinv i h1 h2 h; subst h; exact hk1⟩
 have hge0 : ¬ k < ns.length := by simpa using hc
 have hge : k = ns.length := by omega
 have hfin : decide (ns = ms) = true := decide_eq_true (List.ext_getElem hll fun i h1 h2 => hinv i h1 h2 (by omega))
 refine wp_exit (hK8 _ _ ?_)
 refine zq fun K23 hK23 => ?_
 refine rg mixed y13 zz13 ?_
 refine .ac ?_
 refine .dn fun a24 g W24 y24 zz24 hk hg hV hR hP => ?_
 obtain ⟨e4, -⟩ := hV
 replace D_v := D_v.ext hk
 replace D_u := D_u.ext hk
 replace e4 := e4.q
 replace kw := kw.x hk
 clear hR hk hg hP
 refine zn (hK23 _ _ ?_)
 refine wp_ret ?_
 refine ret1 rfl zz24 e4 ⟨_, rfl, kw, ?_⟩
 rw [hfin]
set_option maxRecDepth 100000 in
theorem endless_all : ∀ (n : Nat) (xs : List V), V.cnts xs < n → ∀ (level : Int), 0 ≤ level → level + n ≤ 4294967296 → ∀ (nested : Bool) (p : Value) (w : World) (S : BSet) (v : Value), (∀ b o, S b o → Cln o) → Rd w S (valsD xs) v → Above w S xs p →
    Calls Tryz.prog 65 #[v, .int .i64 level, p, .bool nested] w (Ret w fun u _ => u = .bool false) := by
  intro n
  induction n with
  | zero => intro xs hx; omega
  | succ n ih =>
  intro xs hx level hl0 hl nested p w S v hS hv hab
  have hmx : xs.length ≤ maxLen := rd_len hv
  simp only [maxLen] at hmx
  rcases hab with rfl | ⟨y, hy, hcy⟩
  · skip
    obtain ⟨va, vc, ev, D_v⟩ := rdVs_out (rd_arg hv)
    subst ev
    refine enter Tryz.func65 rfl Tryz.ntmps65 (lbr rfl) fun a0 y0 zz0 harg => ?_
    have e0 : sl a0 0 = (.slice va (xs.length) vc) := harg 0 (lbr rfl)
    have e1 : sl a0 1 = (.int .i64 (level)) := harg 1 (lbr rfl)
    have e2 : sl a0 2 = (.pointer none) := harg 2 (lbr rfl)
    have e3 : sl a0 3 = (.bool (nested)) := harg 3 (lbr rfl)
    have kw := Keeps.refl All w
    clear harg
    refine zq fun K1 hK1 => ?_
    refine rg mixed y0 zz0 ?_
    refine .ac ?_
    refine .dn fun a2 g W2 y2 zz2 hk hg hV hR hP => ?_
    obtain ⟨-, -⟩ := hV
    replace e0 := ft hR e0
    replace e1 := ft hR e1
    replace e2 := ft hR e2
    replace e3 := ft hR e3
    replace D_v := D_v.ext hk
    replace kw := kw.x hk
    clear hR hk hg hP
    refine zn (hK1 _ _ ?_)
    refine zq fun K3 hK3 => ?_
    refine zq fun K4 hK4 => ?_
    refine rg mixed y2 zz2 ?_
    refine .mb rfl e0 ?_
    refine .i (sp_lenVs Tryz.underlying24 ((hlc rfl).dat D_v sub_all)) ?_
    refine .i (sp_move Has.cst) ?_
    refine .dn fun a5 g W5 y5 zz5 hk hg hV hR hP => ?_
    obtain ⟨e14, e13, -, -⟩ := hV
    replace e0 := ft hR e0
    replace e1 := ft hR e1
    replace e2 := ft hR e2
    replace e3 := ft hR e3
    replace D_v := D_v.ext hk
    replace e13 := e13.q
    replace e14 := e14.q
    replace kw := kw.x hk
    clear hR hk hg hP
    refine zn (hK4 _ _ ?_)
    refine wp_block ?_
    refine wp_for (xs.length) (fun k a W => a.tmps.size = 55 ∧ a.defers = [] ∧ Keeps All w W ∧ sl a 0 = (.slice va (xs.length) vc) ∧ sl a 1 = (.int .i64 (level)) ∧ sl a 2 = (.pointer none) ∧ sl a 3 = (.bool (nested)) ∧ sl a 13 = (.int .i64 (xs.length)) ∧ sl a 14 = (.int .i64 ((k : Nat))) ∧ Rd W (SA w S []) (valsD (xs)) (.slice va (xs.length) vc)) ⟨y5, zz5, kw, e0, e1, e2, e3, e13, (e14.trans (congrArg (Value.int .i64) (rfl))), D_v⟩ ?_
    clear kw e0 e1 e2 e3 e13 e14 D_v
    rintro k a6 W6 hkk ⟨y6, zz6, kw, e0, e1, e2, e3, e13, e14, D_v⟩
    refine zq fun K7 hK7 => ?_
    refine rg mixed y6 zz6 ?_
    refine .i (sp_lss (hbs rfl e14) (hbs rfl e13)) ?_
    refine .dn fun a8 g W8 y8 zz8 hk hg hV hR hP => ?_
    obtain ⟨e15, -⟩ := hV
    replace e0 := ft hR e0
    replace e1 := ft hR e1
    replace e2 := ft hR e2
    replace e3 := ft hR e3
    replace e13 := ft hR e13
    replace e14 := ft hR e14
    replace D_v := D_v.ext hk
    replace e15 := e15.q
    replace kw := kw.x hk
    clear hR hk hg hP
    refine zn (hK7 _ _ ?_)
    refine zq fun K9 hK9 => ?_
    refine zc e15 (fun hc => ?_) (fun hc => ?_)
    ·
     have hlt : k < xs.length := by simpa using hc
     have hce := cnt_elem hlt
     have hcq := cnt_eq xs[k]
     refine wp_skip (hK9 _ _ ?_)
     refine zq fun K10 hK10 => ?_
     refine wp_block ?_
     refine zq fun K11 hK11 => ?_
     refine rg mixed y8 zz8 ?_
     refine .mb rfl e14 ?_
     refine .al rfl ?_
     refine .dn fun a12 g W12 y12 zz12 hk hg hV hR hP => ?_
     obtain ⟨e9, -, -⟩ := hV
     replace e0 := ft hR e0
     replace e1 := ft hR e1
     replace e2 := ft hR e2
     replace e3 := ft hR e3
     replace e13 := ft hR e13
     replace e14 := ft hR e14
     replace D_v := D_v.ext hk
     replace e9 := e9.q
     replace kw := kw.x hk
     clear hR hk hg hP
     refine zn (hK11 _ _ ?_)
     refine zq fun K13 hK13 => ?_
     refine rg mixed y12 zz12 ?_
     refine .mb rfl e0 ?_
     refine .mb rfl e9 ?_
     refine .rf (sp_indexV (i := k) ((hlc rfl).dat D_v sub_all) (hlc rfl) Tryz.underlying24 sz26 rfl hlt) ?_
     refine .rf (X := SA w S []) (e := V.d (xs[k]'hlt)) (sp_assign (hlc rfl)) ?_
     refine .dn fun a14 g W14 y14 zz14 hk hg hV hR hP => ?_
     obtain ⟨e10, -, -, -, -⟩ := hV
     replace e0 := ft hR e0
     replace e1 := ft hR e1
     replace e2 := ft hR e2
     replace e3 := ft hR e3
     replace e13 := ft hR e13
     replace e14 := ft hR e14
     replace D_v := D_v.ext hk
     obtain ⟨v10_14, ev⟩ : ∃ v, sl a14 10 = v := ⟨_, rfl⟩
     rw [ev] at e10
     have D_v10_14 : Ref W14 (SA w S []) (V.d (xs[k]'hlt)) v10_14 := rsa_end e10 hk [] in_nil
     replace e10 := ev; clear ev
     replace kw := kw.x hk
     clear hR hk hg hP
     refine zn (hK13 _ _ ?_)
     refine zq fun K15 hK15 => ?_
     refine zq fun K16 hK16 => ?_
     refine rg mixed y14 zz14 ?_
     refine .mb rfl e3 ?_
     refine .i (sp_move (hlc rfl)) ?_
     refine .em rfl (hlc rfl) rfl e10 ?_
     refine .opE (t := 21) (φ := IsR (SA w S []) (V.d (xs[k]'hlt))) rfl (hlc rfl) (st_r sub_all) (fun hg => sp_nilR (((hlc rfl).undE hg).refd D_v10_14 sub_all)) ?_
     refine .opE (t := 21) (φ := IsR (SA w S []) (D.int .u8 ((xs[k]'hlt).k))) rfl (hlc rfl) (st_r sub_all) (fun hg => sp_fieldV ((hlc rfl).undE hg) Tryz.underlying26 rfl sz5 rfl rfl) ?_
     refine .e rfl (hlc rfl) (fun hg => sp_loadInt ((hlc rfl).undE hg) agg5 sz5) ?_
     refine .e rfl (hlc rfl) (fun hg => sp_neq ((hlc rfl).undE hg) Has.cst) ?_
     refine .i (sp_and (hlc rfl) ((hlc rfl).weak fun hq => hq)) ?_
     refine .i (sp_move (hlc rfl)) ?_
     refine .em rfl (hlc rfl) rfl e10 ?_
     refine .opE (t := 28) (φ := IsR (SA w S []) (V.d (xs[k]'hlt))) rfl (hlc rfl) (st_r sub_all) (fun hg => sp_nilR (((hlc rfl).undE hg).refd D_v10_14 sub_all)) ?_
     refine .opE (t := 28) (φ := IsR (SA w S []) (D.int .u8 ((xs[k]'hlt).k))) rfl (hlc rfl) (st_r sub_all) (fun hg => sp_fieldV ((hlc rfl).undE hg) Tryz.underlying26 rfl sz5 rfl rfl) ?_
     refine .e rfl (hlc rfl) (fun hg => sp_loadInt ((hlc rfl).undE hg) agg5 sz5) ?_
     refine .e rfl (hlc rfl) (fun hg => sp_neq ((hlc rfl).undE hg) Has.cst) ?_
     refine .i (sp_and (hlc rfl) ((hlc rfl).weak fun hq => hq)) ?_
     refine .dn fun a17 g W17 y17 zz17 hk hg hV hR hP => ?_
     obtain ⟨e34, -, -, -, -, -, -, -, -, -, -, -, -, -, -, -⟩ := hV
     replace e0 := ft hR e0
     replace e1 := ft hR e1
     replace e2 := ft hR e2
     replace e3 := ft hR e3
     replace e13 := ft hR e13
     replace e14 := ft hR e14
     replace e10 := ft hR e10
     replace D_v := D_v.ext hk
     replace D_v10_14 := D_v10_14.ext hk
     replace e34 := e34.q
     replace kw := kw.x hk
     clear hR hk hg hP
     refine zn (hK16 _ _ ?_)
     refine zc e34 (fun hc => ?_) (fun hc => ?_)
     ·
      refine wp_exit (hK10 _ _ ?_)
      refine rg mixed y17 zz17 ?_
      refine .i (sp_add (hbs rfl e14) Has.cst (i64_in (by omega))) ?_
      refine .i (sp_move (hlc rfl)) ?_
      refine .dn fun a18 g W18 y18 zz18 hk hg hV hR hP => ?_
      obtain ⟨e14, -, -⟩ := hV
      replace e0 := ft hR e0
      replace e1 := ft hR e1
      replace e2 := ft hR e2
      replace e3 := ft hR e3
      replace e13 := ft hR e13
      replace D_v := D_v.ext hk
      replace D_v10_14 := D_v10_14.ext hk
      replace e14 := e14.q
      replace kw := kw.x hk
      clear hR hk hg hP
      exact tail_nil ⟨hlt, y18, zz18, kw, e0, e1, e2, e3, e13, (e14.trans (congrArg (Value.int .i64) (by simp))), D_v⟩
     refine wp_skip (hK15 _ _ ?_)
     refine zq fun K19 hK19 => ?_
     refine zq fun K20 hK20 => ?_
     refine rg mixed y17 zz17 ?_
     refine .mb rfl e10 ?_
     refine .mb rfl e2 ?_
     refine .i (v := (.bool (false))) (sp_refNil Tryz.underlying86 ((hlc rfl).refd D_v10_14 sub_all) (hlc rfl)) ?_
     refine .dn fun a21 g W21 y21 zz21 hk hg hV hR hP => ?_
     obtain ⟨e37, -, -, -⟩ := hV
     replace e0 := ft hR e0
     replace e1 := ft hR e1
     replace e2 := ft hR e2
     replace e3 := ft hR e3
     replace e13 := ft hR e13
     replace e14 := ft hR e14
     replace e10 := ft hR e10
     replace D_v := D_v.ext hk
     replace D_v10_14 := D_v10_14.ext hk
     replace e37 := e37.q
     replace kw := kw.x hk
     clear hR hk hg hP
     refine zn (hK20 _ _ ?_)
     refine wp_cond_false e37 ?_
     refine wp_skip (hK19 _ _ ?_)
     refine zq fun K22 hK22 => ?_
     refine rg mixed y21 zz21 ?_
     refine .mb rfl e2 ?_
     refine .al rfl ?_
     refine .dn fun a23 g W23 y23 zz23 hk hg hV hR hP => ?_
     obtain ⟨e11, -, -⟩ := hV
     replace e0 := ft hR e0
     replace e1 := ft hR e1
     replace e2 := ft hR e2
     replace e3 := ft hR e3
     replace e13 := ft hR e13
     replace e14 := ft hR e14
     replace e10 := ft hR e10
     replace D_v := D_v.ext hk
     replace D_v10_14 := D_v10_14.ext hk
     have e11 : sl a23 11 = (.pointer none) := e11
     replace kw := kw.x hk
     clear hR hk hg hP
     refine zn (hK22 _ _ ?_)
     refine zq fun K24 hK24 => ?_
     refine zq fun K25 hK25 => ?_
     refine rg mixed y23 zz23 ?_
     refine .mb rfl e1 ?_
     refine .mb rfl e1 ?_
     refine .i (sp_sub (hlc rfl) Has.cst (i64_in (by omega))) ?_
     refine .i (sp_band (hlc rfl) (hlc rfl)) ?_
     refine .i (sp_eql (hlc rfl) Has.cst) ?_
     refine .dn fun a26 g W26 y26 zz26 hk hg hV hR hP => ?_
     obtain ⟨e43, -, -, -, -, -⟩ := hV
     replace e0 := ft hR e0
     replace e1 := ft hR e1
     replace e2 := ft hR e2
     replace e3 := ft hR e3
     replace e13 := ft hR e13
     replace e14 := ft hR e14
     replace e10 := ft hR e10
     replace e11 := ft hR e11
     replace D_v := D_v.ext hk
     replace D_v10_14 := D_v10_14.ext hk
     replace e43 := e43.q
     replace kw := kw.x hk
     clear hR hk hg hP
     refine zn (hK25 _ _ ?_)
     refine zc e43 (fun hc => ?_) (fun hc => ?_)
     ·
      refine rg mixed y26 zz26 ?_
      refine .mb rfl e10 ?_
      refine .al rfl ?_
      refine .dn fun a27 g W27 y27 zz27 hk hg hV hR hP => ?_
      obtain ⟨e11, -, -⟩ := hV
      replace e0 := ft hR e0
      replace e1 := ft hR e1
      replace e2 := ft hR e2
      replace e3 := ft hR e3
      replace e13 := ft hR e13
      replace e14 := ft hR e14
      replace e10 := ft hR e10
      replace D_v := D_v.ext hk
      replace D_v10_14 := D_v10_14.ext hk
      have e11 : sl a27 11 = v10_14 := e11
      replace kw := kw.x hk
      clear hR hk hg hP
      refine zn (hK24 _ _ ?_)
      refine zq fun K28 hK28 => ?_
      refine rg mixed y27 zz27 ?_
      refine .mb rfl e10 ?_
      refine .rf (sp_nilR ((hlc rfl).refd D_v10_14 sub_all)) ?_
      refine .rf (X := SA w S []) (e := valsD ((xs[k]'hlt).xs)) (sp_fieldV (hlc rfl) Tryz.underlying26 rfl sz24 rfl rfl) ?_
      refine .da (X := SA w S []) (e := valsD ((xs[k]'hlt).xs)) (sp_loadR (hlc rfl) agg24 sz24 rfl) ?_
      refine .mb rfl e1 ?_
      refine .i (sp_add (hlc rfl) Has.cst (i64_in (by omega))) ?_
      refine .mb rfl e11 ?_
      refine .mb rfl e3 ?_
      refine .i (v := (.bool (false))) (sp_call4 (φ1 := IsD (SA w S []) (valsD ((xs[k]'hlt).xs))) (φ2 := Is (.int .i64 ((level : Int) + (1 : Int)))) (φ3 := IsR (SA w S []) (V.d (xs[k]'hlt))) (φ4 := Is (.bool (nested))) ent65 (hlc rfl) (hlc rfl) ((hlc rfl).refd D_v10_14 sub_all) (hlc rfl) (fun g u1 u2 u3 u4 W hk hgk h1 h2 h3 h4 => by have h2 : u2 = _ := h2; subst u2; have h4 : u4 = _ := h4; subst u4; exact ih ((xs[k]'hlt).xs) (by omega) ((level : Int) + (1 : Int)) (by omega) (by omega) (nested) _ W _ _ (fun b o h => sa_cln hS b o h.1) h1 (Or.inr ⟨_, h3, by omega⟩))) ?_
      refine .dn fun a29 g W29 y29 zz29 hk hg hV hR hP => ?_
      obtain ⟨e53, -, -, -, -, -, -, -, -, -⟩ := hV
      replace e0 := ft hR e0
      replace e1 := ft hR e1
      replace e2 := ft hR e2
      replace e3 := ft hR e3
      replace e13 := ft hR e13
      replace e14 := ft hR e14
      replace D_v := D_v.ext hk
      replace D_v10_14 := D_v10_14.ext hk
      replace e53 := e53.q
      replace kw := kw.x hk
      clear hR hk hg hP
      refine zn (hK28 _ _ ?_)
      refine wp_cond_false e53 ?_
      refine wp_skip (hK10 _ _ ?_)
      refine rg mixed y29 zz29 ?_
      refine .i (sp_add (hbs rfl e14) Has.cst (i64_in (by omega))) ?_
      refine .i (sp_move (hlc rfl)) ?_
      refine .dn fun a30 g W30 y30 zz30 hk hg hV hR hP => ?_
      obtain ⟨e14, -, -⟩ := hV
      replace e0 := ft hR e0
      replace e1 := ft hR e1
      replace e2 := ft hR e2
      replace e3 := ft hR e3
      replace e13 := ft hR e13
      replace D_v := D_v.ext hk
      replace e14 := e14.q
      replace kw := kw.x hk
      clear hR hk hg hP
      exact tail_nil ⟨hlt, y30, zz30, kw, e0, e1, e2, e3, e13, (e14.trans (congrArg (Value.int .i64) (by simp))), D_v⟩
     refine wp_skip (hK24 _ _ ?_)
     refine zq fun K31 hK31 => ?_
     refine rg mixed y26 zz26 ?_
     refine .mb rfl e10 ?_
     refine .rf (sp_nilR ((hlc rfl).refd D_v10_14 sub_all)) ?_
     refine .rf (X := SA w S []) (e := valsD ((xs[k]'hlt).xs)) (sp_fieldV (hlc rfl) Tryz.underlying26 rfl sz24 rfl rfl) ?_
     refine .da (X := SA w S []) (e := valsD ((xs[k]'hlt).xs)) (sp_loadR (hlc rfl) agg24 sz24 rfl) ?_
     refine .mb rfl e1 ?_
     refine .i (sp_add (hlc rfl) Has.cst (i64_in (by omega))) ?_
     refine .mb rfl e11 ?_
     refine .mb rfl e3 ?_
     refine .i (v := (.bool (false))) (sp_call4 (φ1 := IsD (SA w S []) (valsD ((xs[k]'hlt).xs))) (φ2 := Is (.int .i64 ((level : Int) + (1 : Int)))) (φ3 := Is (.pointer none)) (φ4 := Is (.bool (nested))) ent65 (hlc rfl) (hlc rfl) (hlc rfl) (hlc rfl) (fun g u1 u2 u3 u4 W hk hgk h1 h2 h3 h4 => by have h2 : u2 = _ := h2; subst u2; have h3 : u3 = _ := h3; subst u3; have h4 : u4 = _ := h4; subst u4; exact ih ((xs[k]'hlt).xs) (by omega) ((level : Int) + (1 : Int)) (by omega) (by omega) (nested) _ W _ _ (fun b o h => sa_cln hS b o h.1) h1 (Or.inl rfl))) ?_
     refine .dn fun a32 g W32 y32 zz32 hk hg hV hR hP => ?_
     obtain ⟨e53, -, -, -, -, -, -, -, -, -⟩ := hV
     replace e0 := ft hR e0
     replace e1 := ft hR e1
     replace e2 := ft hR e2
     replace e3 := ft hR e3
     replace e13 := ft hR e13
     replace e14 := ft hR e14
     replace D_v := D_v.ext hk
     replace D_v10_14 := D_v10_14.ext hk
     replace e53 := e53.q
     replace kw := kw.x hk
     clear hR hk hg hP
     refine zn (hK31 _ _ ?_)
     refine wp_cond_false e53 ?_
     refine wp_skip (hK10 _ _ ?_)
     refine rg mixed y32 zz32 ?_
     refine .i (sp_add (hbs rfl e14) Has.cst (i64_in (by omega))) ?_
     refine .i (sp_move (hlc rfl)) ?_
     refine .dn fun a33 g W33 y33 zz33 hk hg hV hR hP => ?_
     obtain ⟨e14, -, -⟩ := hV
     replace e0 := ft hR e0
     replace e1 := ft hR e1
     replace e2 := ft hR e2
     replace e3 := ft hR e3
     replace e13 := ft hR e13
     replace D_v := D_v.ext hk
     replace e14 := e14.q
     replace kw := kw.x hk
     clear hR hk hg hP
     exact tail_nil ⟨hlt, y33, zz33, kw, e0, e1, e2, e3, e13, (e14.trans (congrArg (Value.int .i64) (by simp))), D_v⟩
    have hge0 : ¬ k < xs.length := by simpa using hc
    have hge : k = xs.length := by omega
    refine wp_exit (hK3 _ _ ?_)
    refine zq fun K34 hK34 => ?_
    refine rg mixed y8 zz8 ?_
    refine .ac ?_
    refine .dn fun a35 g W35 y35 zz35 hk hg hV hR hP => ?_
    obtain ⟨e8, -⟩ := hV
    replace D_v := D_v.ext hk
    replace e8 := e8.q
    replace kw := kw.x hk
    clear hR hk hg hP
    refine zn (hK34 _ _ ?_)
    refine wp_ret ?_
    refine ret1 rfl zz35 e8 ⟨_, rfl, kw, ?_⟩
    exact rfl
  · skip
    obtain ⟨va, vc, ev, D_v⟩ := rdVs_out (rd_arg hv)
    subst ev
    have D_p := ref_arg hy
    refine enter Tryz.func65 rfl Tryz.ntmps65 (lbr rfl) fun a0 y0 zz0 harg => ?_
    have e0 : sl a0 0 = (.slice va (xs.length) vc) := harg 0 (lbr rfl)
    have e1 : sl a0 1 = (.int .i64 (level)) := harg 1 (lbr rfl)
    have e2 : sl a0 2 = p := harg 2 (lbr rfl)
    have e3 : sl a0 3 = (.bool (nested)) := harg 3 (lbr rfl)
    have kw := Keeps.refl All w
    clear harg
    refine zq fun K1 hK1 => ?_
    refine rg mixed y0 zz0 ?_
    refine .ac ?_
    refine .dn fun a2 g W2 y2 zz2 hk hg hV hR hP => ?_
    obtain ⟨-, -⟩ := hV
    replace e0 := ft hR e0
    replace e1 := ft hR e1
    replace e2 := ft hR e2
    replace e3 := ft hR e3
    replace D_v := D_v.ext hk
    replace D_p := D_p.ext hk
    replace kw := kw.x hk
    clear hR hk hg hP
    refine zn (hK1 _ _ ?_)
    refine zq fun K3 hK3 => ?_
    refine zq fun K4 hK4 => ?_
    refine rg mixed y2 zz2 ?_
    refine .mb rfl e0 ?_
    refine .i (sp_lenVs Tryz.underlying24 ((hlc rfl).dat D_v sub_all)) ?_
    refine .i (sp_move Has.cst) ?_
    refine .dn fun a5 g W5 y5 zz5 hk hg hV hR hP => ?_
    obtain ⟨e14, e13, -, -⟩ := hV
    replace e0 := ft hR e0
    replace e1 := ft hR e1
    replace e2 := ft hR e2
    replace e3 := ft hR e3
    replace D_v := D_v.ext hk
    replace D_p := D_p.ext hk
    replace e13 := e13.q
    replace e14 := e14.q
    replace kw := kw.x hk
    clear hR hk hg hP
    refine zn (hK4 _ _ ?_)
    refine wp_block ?_
    refine wp_for (xs.length) (fun k a W => a.tmps.size = 55 ∧ a.defers = [] ∧ Keeps All w W ∧ sl a 0 = (.slice va (xs.length) vc) ∧ sl a 1 = (.int .i64 (level)) ∧ sl a 2 = p ∧ sl a 3 = (.bool (nested)) ∧ sl a 13 = (.int .i64 (xs.length)) ∧ sl a 14 = (.int .i64 ((k : Nat))) ∧ Rd W (SA w S []) (valsD (xs)) (.slice va (xs.length) vc) ∧ Ref W (SA w S []) (V.d (y)) p) ⟨y5, zz5, kw, e0, e1, e2, e3, e13, (e14.trans (congrArg (Value.int .i64) (rfl))), D_v, D_p⟩ ?_
    clear kw e0 e1 e2 e3 e13 e14 D_v D_p
    rintro k a6 W6 hkk ⟨y6, zz6, kw, e0, e1, e2, e3, e13, e14, D_v, D_p⟩
    refine zq fun K7 hK7 => ?_
    refine rg mixed y6 zz6 ?_
    refine .i (sp_lss (hbs rfl e14) (hbs rfl e13)) ?_
    refine .dn fun a8 g W8 y8 zz8 hk hg hV hR hP => ?_
    obtain ⟨e15, -⟩ := hV
    replace e0 := ft hR e0
    replace e1 := ft hR e1
    replace e2 := ft hR e2
    replace e3 := ft hR e3
    replace e13 := ft hR e13
    replace e14 := ft hR e14
    replace D_v := D_v.ext hk
    replace D_p := D_p.ext hk
    replace e15 := e15.q
    replace kw := kw.x hk
    clear hR hk hg hP
    refine zn (hK7 _ _ ?_)
    refine zq fun K9 hK9 => ?_
    refine zc e15 (fun hc => ?_) (fun hc => ?_)
    ·
     have hlt : k < xs.length := by simpa using hc
     have hce := cnt_elem hlt
     have hcq := cnt_eq xs[k]
     refine wp_skip (hK9 _ _ ?_)
     refine zq fun K10 hK10 => ?_
     refine wp_block ?_
     refine zq fun K11 hK11 => ?_
     refine rg mixed y8 zz8 ?_
     refine .mb rfl e14 ?_
     refine .al rfl ?_
     refine .dn fun a12 g W12 y12 zz12 hk hg hV hR hP => ?_
     obtain ⟨e9, -, -⟩ := hV
     replace e0 := ft hR e0
     replace e1 := ft hR e1
     replace e2 := ft hR e2
     replace e3 := ft hR e3
     replace e13 := ft hR e13
     replace e14 := ft hR e14
     replace D_v := D_v.ext hk
     replace D_p := D_p.ext hk
     replace e9 := e9.q
     replace kw := kw.x hk
     clear hR hk hg hP
     refine zn (hK11 _ _ ?_)
     refine zq fun K13 hK13 => ?_
     refine rg mixed y12 zz12 ?_
     refine .mb rfl e0 ?_
     refine .mb rfl e9 ?_
     refine .rf (sp_indexV (i := k) ((hlc rfl).dat D_v sub_all) (hlc rfl) Tryz.underlying24 sz26 rfl hlt) ?_
     refine .rf (X := SA w S []) (e := V.d (xs[k]'hlt)) (sp_assign (hlc rfl)) ?_
     refine .dn fun a14 g W14 y14 zz14 hk hg hV hR hP => ?_
     obtain ⟨e10, -, -, -, -⟩ := hV
     replace e0 := ft hR e0
     replace e1 := ft hR e1
     replace e2 := ft hR e2
     replace e3 := ft hR e3
     replace e13 := ft hR e13
     replace e14 := ft hR e14
     replace D_v := D_v.ext hk
     replace D_p := D_p.ext hk
     obtain ⟨v10_14, ev⟩ : ∃ v, sl a14 10 = v := ⟨_, rfl⟩
     rw [ev] at e10
     have D_v10_14 : Ref W14 (SA w S []) (V.d (xs[k]'hlt)) v10_14 := rsa_end e10 hk [] in_nil
     replace e10 := ev; clear ev
     replace kw := kw.x hk
     clear hR hk hg hP
     refine zn (hK13 _ _ ?_)
     refine zq fun K15 hK15 => ?_
     refine zq fun K16 hK16 => ?_
     refine rg mixed y14 zz14 ?_
     refine .mb rfl e3 ?_
     refine .i (sp_move (hlc rfl)) ?_
     refine .em rfl (hlc rfl) rfl e10 ?_
     refine .opE (t := 21) (φ := IsR (SA w S []) (V.d (xs[k]'hlt))) rfl (hlc rfl) (st_r sub_all) (fun hg => sp_nilR (((hlc rfl).undE hg).refd D_v10_14 sub_all)) ?_
     refine .opE (t := 21) (φ := IsR (SA w S []) (D.int .u8 ((xs[k]'hlt).k))) rfl (hlc rfl) (st_r sub_all) (fun hg => sp_fieldV ((hlc rfl).undE hg) Tryz.underlying26 rfl sz5 rfl rfl) ?_
     refine .e rfl (hlc rfl) (fun hg => sp_loadInt ((hlc rfl).undE hg) agg5 sz5) ?_
     refine .e rfl (hlc rfl) (fun hg => sp_neq ((hlc rfl).undE hg) Has.cst) ?_
     refine .i (sp_and (hlc rfl) ((hlc rfl).weak fun hq => hq)) ?_
     refine .i (sp_move (hlc rfl)) ?_
     refine .em rfl (hlc rfl) rfl e10 ?_
     refine .opE (t := 28) (φ := IsR (SA w S []) (V.d (xs[k]'hlt))) rfl (hlc rfl) (st_r sub_all) (fun hg => sp_nilR (((hlc rfl).undE hg).refd D_v10_14 sub_all)) ?_
     refine .opE (t := 28) (φ := IsR (SA w S []) (D.int .u8 ((xs[k]'hlt).k))) rfl (hlc rfl) (st_r sub_all) (fun hg => sp_fieldV ((hlc rfl).undE hg) Tryz.underlying26 rfl sz5 rfl rfl) ?_
     refine .e rfl (hlc rfl) (fun hg => sp_loadInt ((hlc rfl).undE hg) agg5 sz5) ?_
     refine .e rfl (hlc rfl) (fun hg => sp_neq ((hlc rfl).undE hg) Has.cst) ?_
     refine .i (sp_and (hlc rfl) ((hlc rfl).weak fun hq => hq)) ?_
     refine .dn fun a17 g W17 y17 zz17 hk hg hV hR hP => ?_
     obtain ⟨e34, -, -, -, -, -, -, -, -, -, -, -, -, -, -, -⟩ := hV
     replace e0 := ft hR e0
     replace e1 := ft hR e1
     replace e2 := ft hR e2
     replace e3 := ft hR e3
     replace e13 := ft hR e13
     replace e14 := ft hR e14
     replace e10 := ft hR e10
     replace D_v := D_v.ext hk
     replace D_p := D_p.ext hk
     replace D_v10_14 := D_v10_14.ext hk
     replace e34 := e34.q
     replace kw := kw.x hk
     clear hR hk hg hP
     refine zn (hK16 _ _ ?_)
     refine zc e34 (fun hc => ?_) (fun hc => ?_)
     ·
      refine wp_exit (hK10 _ _ ?_)
      refine rg mixed y17 zz17 ?_
      refine .i (sp_add (hbs rfl e14) Has.cst (i64_in (by omega))) ?_
      refine .i (sp_move (hlc rfl)) ?_
      refine .dn fun a18 g W18 y18 zz18 hk hg hV hR hP => ?_
      obtain ⟨e14, -, -⟩ := hV
      replace e0 := ft hR e0
      replace e1 := ft hR e1
      replace e2 := ft hR e2
      replace e3 := ft hR e3
      replace e13 := ft hR e13
      replace D_v := D_v.ext hk
      replace D_p := D_p.ext hk
      replace D_v10_14 := D_v10_14.ext hk
      replace e14 := e14.q
      replace kw := kw.x hk
      clear hR hk hg hP
      exact tail_nil ⟨hlt, y18, zz18, kw, e0, e1, e2, e3, e13, (e14.trans (congrArg (Value.int .i64) (by simp))), D_v, D_p⟩
     refine wp_skip (hK15 _ _ ?_)
     refine zq fun K19 hK19 => ?_
     refine zq fun K20 hK20 => ?_
     refine rg mixed y17 zz17 ?_
     refine .mb rfl e10 ?_
     refine .mb rfl e2 ?_
     refine .i (v := (.bool (false))) (sp_refEq Tryz.underlying86 sz26 ((hlc rfl).refd D_v10_14 sub_all) ((hlc rfl).refd D_p sub_all) (sa_cln hS) (sa_cln hS) (fun W X Y cs h1 h2 => by have := rdV_det _ _ cs h1 h2; have := congrArg V.cnt this; omega) (by rw [V.d_eq, V.d_eq]; rfl)) ?_
     refine .dn fun a21 g W21 y21 zz21 hk hg hV hR hP => ?_
     obtain ⟨e37, -, -, -⟩ := hV
     replace e0 := ft hR e0
     replace e1 := ft hR e1
     replace e2 := ft hR e2
     replace e3 := ft hR e3
     replace e13 := ft hR e13
     replace e14 := ft hR e14
     replace e10 := ft hR e10
     replace D_v := D_v.ext hk
     replace D_p := D_p.ext hk
     replace D_v10_14 := D_v10_14.ext hk
     replace e37 := e37.q
     replace kw := kw.x hk
     clear hR hk hg hP
     refine zn (hK20 _ _ ?_)
     refine wp_cond_false e37 ?_
     refine wp_skip (hK19 _ _ ?_)
     refine zq fun K22 hK22 => ?_
     refine rg mixed y21 zz21 ?_
     refine .mb rfl e2 ?_
     refine .al rfl ?_
     refine .dn fun a23 g W23 y23 zz23 hk hg hV hR hP => ?_
     obtain ⟨e11, -, -⟩ := hV
     replace e0 := ft hR e0
     replace e1 := ft hR e1
     replace e2 := ft hR e2
     replace e3 := ft hR e3
     replace e13 := ft hR e13
     replace e14 := ft hR e14
     replace e10 := ft hR e10
     replace D_v := D_v.ext hk
     replace D_p := D_p.ext hk
     replace D_v10_14 := D_v10_14.ext hk
     have e11 : sl a23 11 = p := e11
     replace kw := kw.x hk
     clear hR hk hg hP
     refine zn (hK22 _ _ ?_)
     refine zq fun K24 hK24 => ?_
     refine zq fun K25 hK25 => ?_
     refine rg mixed y23 zz23 ?_
     refine .mb rfl e1 ?_
     refine .mb rfl e1 ?_
     refine .i (sp_sub (hlc rfl) Has.cst (i64_in (by omega))) ?_
     refine .i (sp_band (hlc rfl) (hlc rfl)) ?_
     refine .i (sp_eql (hlc rfl) Has.cst) ?_
     refine .dn fun a26 g W26 y26 zz26 hk hg hV hR hP => ?_
     obtain ⟨e43, -, -, -, -, -⟩ := hV
     replace e0 := ft hR e0
     replace e1 := ft hR e1
     replace e2 := ft hR e2
     replace e3 := ft hR e3
     replace e13 := ft hR e13
     replace e14 := ft hR e14
     replace e10 := ft hR e10
     replace e11 := ft hR e11
     replace D_v := D_v.ext hk
     replace D_p := D_p.ext hk
     replace D_v10_14 := D_v10_14.ext hk
     replace e43 := e43.q
     replace kw := kw.x hk
     clear hR hk hg hP
     refine zn (hK25 _ _ ?_)
     refine zc e43 (fun hc => ?_) (fun hc => ?_)
     ·
      refine rg mixed y26 zz26 ?_
      refine .mb rfl e10 ?_
      refine .al rfl ?_
      refine .dn fun a27 g W27 y27 zz27 hk hg hV hR hP => ?_
      obtain ⟨e11, -, -⟩ := hV
      replace e0 := ft hR e0
      replace e1 := ft hR e1
      replace e2 := ft hR e2
      replace e3 := ft hR e3
      replace e13 := ft hR e13
      replace e14 := ft hR e14
      replace e10 := ft hR e10
      replace D_v := D_v.ext hk
      replace D_p := D_p.ext hk
      replace D_v10_14 := D_v10_14.ext hk
      have e11 : sl a27 11 = v10_14 := e11
      replace kw := kw.x hk
      clear hR hk hg hP
      refine zn (hK24 _ _ ?_)
      refine zq fun K28 hK28 => ?_
      refine rg mixed y27 zz27 ?_
      refine .mb rfl e10 ?_
      refine .rf (sp_nilR ((hlc rfl).refd D_v10_14 sub_all)) ?_
      refine .rf (X := SA w S []) (e := valsD ((xs[k]'hlt).xs)) (sp_fieldV (hlc rfl) Tryz.underlying26 rfl sz24 rfl rfl) ?_
      refine .da (X := SA w S []) (e := valsD ((xs[k]'hlt).xs)) (sp_loadR (hlc rfl) agg24 sz24 rfl) ?_
      refine .mb rfl e1 ?_
      refine .i (sp_add (hlc rfl) Has.cst (i64_in (by omega))) ?_
      refine .mb rfl e11 ?_
      refine .mb rfl e3 ?_
      refine .i (v := (.bool (false))) (sp_call4 (φ1 := IsD (SA w S []) (valsD ((xs[k]'hlt).xs))) (φ2 := Is (.int .i64 ((level : Int) + (1 : Int)))) (φ3 := IsR (SA w S []) (V.d (xs[k]'hlt))) (φ4 := Is (.bool (nested))) ent65 (hlc rfl) (hlc rfl) ((hlc rfl).refd D_v10_14 sub_all) (hlc rfl) (fun g u1 u2 u3 u4 W hk hgk h1 h2 h3 h4 => by have h2 : u2 = _ := h2; subst u2; have h4 : u4 = _ := h4; subst u4; exact ih ((xs[k]'hlt).xs) (by omega) ((level : Int) + (1 : Int)) (by omega) (by omega) (nested) _ W _ _ (fun b o h => sa_cln hS b o h.1) h1 (Or.inr ⟨_, h3, by omega⟩))) ?_
      refine .dn fun a29 g W29 y29 zz29 hk hg hV hR hP => ?_
      obtain ⟨e53, -, -, -, -, -, -, -, -, -⟩ := hV
      replace e0 := ft hR e0
      replace e1 := ft hR e1
      replace e2 := ft hR e2
      replace e3 := ft hR e3
      replace e13 := ft hR e13
      replace e14 := ft hR e14
      replace D_v := D_v.ext hk
      replace D_p := D_p.ext hk
      replace D_v10_14 := D_v10_14.ext hk
      replace e53 := e53.q
      replace kw := kw.x hk
      clear hR hk hg hP
      refine zn (hK28 _ _ ?_)
      refine wp_cond_false e53 ?_
      refine wp_skip (hK10 _ _ ?_)
      refine rg mixed y29 zz29 ?_
      refine .i (sp_add (hbs rfl e14) Has.cst (i64_in (by omega))) ?_
      refine .i (sp_move (hlc rfl)) ?_
      refine .dn fun a30 g W30 y30 zz30 hk hg hV hR hP => ?_
      obtain ⟨e14, -, -⟩ := hV
      replace e0 := ft hR e0
      replace e1 := ft hR e1
      replace e2 := ft hR e2
      replace e3 := ft hR e3
      replace e13 := ft hR e13
      replace D_v := D_v.ext hk
      replace D_p := D_p.ext hk
      replace e14 := e14.q
      replace kw := kw.x hk
      clear hR hk hg hP
      exact tail_nil ⟨hlt, y30, zz30, kw, e0, e1, e2, e3, e13, (e14.trans (congrArg (Value.int .i64) (by simp))), D_v, D_p⟩
     refine wp_skip (hK24 _ _ ?_)
     refine zq fun K31 hK31 => ?_
     refine rg mixed y26 zz26 ?_
     refine .mb rfl e10 ?_
     refine .rf (sp_nilR ((hlc rfl).refd D_v10_14 sub_all)) ?_
     refine .rf (X := SA w S []) (e := valsD ((xs[k]'hlt).xs)) (sp_fieldV (hlc rfl) Tryz.underlying26 rfl sz24 rfl rfl) ?_
     refine .da (X := SA w S []) (e := valsD ((xs[k]'hlt).xs)) (sp_loadR (hlc rfl) agg24 sz24 rfl) ?_
     refine .mb rfl e1 ?_
     refine .i (sp_add (hlc rfl) Has.cst (i64_in (by omega))) ?_
     refine .mb rfl e11 ?_
     refine .mb rfl e3 ?_
     refine .i (v := (.bool (false))) (sp_call4 (φ1 := IsD (SA w S []) (valsD ((xs[k]'hlt).xs))) (φ2 := Is (.int .i64 ((level : Int) + (1 : Int)))) (φ3 := IsR (SA w S []) (V.d (y))) (φ4 := Is (.bool (nested))) ent65 (hlc rfl) (hlc rfl) ((hlc rfl).refd D_p sub_all) (hlc rfl) (fun g u1 u2 u3 u4 W hk hgk h1 h2 h3 h4 => by have h2 : u2 = _ := h2; subst u2; have h4 : u4 = _ := h4; subst u4; exact ih ((xs[k]'hlt).xs) (by omega) ((level : Int) + (1 : Int)) (by omega) (by omega) (nested) _ W _ _ (fun b o h => sa_cln hS b o h.1) h1 (Or.inr ⟨_, h3, by omega⟩))) ?_
     refine .dn fun a32 g W32 y32 zz32 hk hg hV hR hP => ?_
     obtain ⟨e53, -, -, -, -, -, -, -, -, -⟩ := hV
     replace e0 := ft hR e0
     replace e1 := ft hR e1
     replace e2 := ft hR e2
     replace e3 := ft hR e3
     replace e13 := ft hR e13
     replace e14 := ft hR e14
     replace D_v := D_v.ext hk
     replace D_p := D_p.ext hk
     replace D_v10_14 := D_v10_14.ext hk
     replace e53 := e53.q
     replace kw := kw.x hk
     clear hR hk hg hP
     refine zn (hK31 _ _ ?_)
     refine wp_cond_false e53 ?_
     refine wp_skip (hK10 _ _ ?_)
     refine rg mixed y32 zz32 ?_
     refine .i (sp_add (hbs rfl e14) Has.cst (i64_in (by omega))) ?_
     refine .i (sp_move (hlc rfl)) ?_
     refine .dn fun a33 g W33 y33 zz33 hk hg hV hR hP => ?_
     obtain ⟨e14, -, -⟩ := hV
     replace e0 := ft hR e0
     replace e1 := ft hR e1
     replace e2 := ft hR e2
     replace e3 := ft hR e3
     replace e13 := ft hR e13
     replace D_v := D_v.ext hk
     replace D_p := D_p.ext hk
     replace e14 := e14.q
     replace kw := kw.x hk
     clear hR hk hg hP
     exact tail_nil ⟨hlt, y33, zz33, kw, e0, e1, e2, e3, e13, (e14.trans (congrArg (Value.int .i64) (by simp))), D_v, D_p⟩
    have hge0 : ¬ k < xs.length := by simpa using hc
    have hge : k = xs.length := by omega
    refine wp_exit (hK3 _ _ ?_)
    refine zq fun K34 hK34 => ?_
    refine rg mixed y8 zz8 ?_
    refine .ac ?_
    refine .dn fun a35 g W35 y35 zz35 hk hg hV hR hP => ?_
    obtain ⟨e8, -⟩ := hV
    replace D_v := D_v.ext hk
    replace D_p := D_p.ext hk
    replace e8 := e8.q
    replace kw := kw.x hk
    clear hR hk hg hP
    refine zn (hK34 _ _ ?_)
    refine wp_ret ?_
    refine ret1 rfl zz35 e8 ⟨_, rfl, kw, ?_⟩
    exact rfl
end Go.Proofs.YtnobijngkpflcaaGreat
namespace Go.Proofs.YtnobijngkpflcaaGreat
open Go.Eng
set_option maxRecDepth 100000 in
theorem same_all : ∀ (n : Nat) (x y : V), x.cnt ≤ n → n ≤ 1073741824 → ∀ (w : World) (S : BSet) (p q : Value), Ref w S x.d p → Ref w S y.d q → Calls Tryz.prog 66 #[p, q, .pointer none] w (Ret w fun u _ => u = .bool (V.beq x y)) := by
 intro n
 induction n with
 | zero => intro x y hx; cases x; simp [V.cnt] at hx
 | succ n ih =>
 intro x y hx hn w S p q hp hq
 have hlx := len_cnts x.xs
 have hcx := cnt_eq x
 have D_p := ref_arg hp
 have D_q := ref_arg hq
 refine enter Tryz.func66 rfl Tryz.ntmps66 (lbr rfl) fun a0 y0 zz0 harg => ?_
 have e0 : sl a0 0 = p := harg 0 (lbr rfl)
 have e1 : sl a0 1 = q := harg 1 (lbr rfl)
 have e2 : sl a0 2 = (.pointer none) := harg 2 (lbr rfl)
 have kw := Keeps.refl All w
 clear harg
 refine zq fun K1 hK1 => ?_
 refine rg mixed y0 zz0 ?_
 refine .ac ?_
 refine .dn fun a2 g W2 y2 zz2 hk hg hV hR hP => ?_
 obtain ⟨-, -⟩ := hV
 replace e0 := ft hR e0
 replace e1 := ft hR e1
 replace e2 := ft hR e2
 replace D_p := D_p.ext hk
 replace D_q := D_q.ext hk
 replace kw := kw.x hk
 clear hR hk hg hP
 refine zn (hK1 _ _ ?_)
 refine zq fun K3 hK3 => ?_
 refine zq fun K4 hK4 => ?_
 refine rg mixed y2 zz2 ?_
 refine .mb rfl e0 ?_
 refine .rf (sp_nilR ((hlc rfl).refd D_p sub_all)) ?_
 refine .rf (X := SA w S []) (e := D.int .u8 (x.k)) (sp_fieldV (hlc rfl) Tryz.underlying26 rfl sz5 rfl rfl) ?_
 refine .i (sp_loadInt (hlc rfl) agg5 sz5) ?_
 refine .mb rfl e1 ?_
 refine .rf (sp_nilR ((hlc rfl).refd D_q sub_all)) ?_
 refine .rf (X := SA w S []) (e := D.int .u8 (y.k)) (sp_fieldV (hlc rfl) Tryz.underlying26 rfl sz5 rfl rfl) ?_
 refine .i (sp_loadInt (hlc rfl) agg5 sz5) ?_
 refine .i (sp_neq (hlc rfl) (hlc rfl)) ?_
 refine .i (sp_move (hlc rfl)) ?_
 refine .em rfl (hlc rfl) rfl e0 ?_
 refine .opE (t := 17) (φ := IsR (SA w S []) (V.d (x))) rfl (hlc rfl) (st_r sub_all) (fun hg => sp_nilR (((hlc rfl).undE hg).refd D_p sub_all)) ?_
 refine .opE (t := 17) (φ := IsR (SA w S []) (D.int .i64 (x.n))) rfl (hlc rfl) (st_r sub_all) (fun hg => sp_fieldV ((hlc rfl).undE hg) Tryz.underlying26 rfl sz2 rfl rfl) ?_
 refine .e rfl (hlc rfl) (fun hg => sp_loadInt ((hlc rfl).undE hg) agg2 sz2) ?_
 refine .em rfl (hlc rfl) rfl e1 ?_
 refine .opE (t := 17) (φ := IsR (SA w S []) (V.d (y))) rfl (hlc rfl) (st_r sub_all) (fun hg => sp_nilR (((hlc rfl).undE hg).refd D_q sub_all)) ?_
 refine .opE (t := 17) (φ := IsR (SA w S []) (D.int .i64 (y.n))) rfl (hlc rfl) (st_r sub_all) (fun hg => sp_fieldV ((hlc rfl).undE hg) Tryz.underlying26 rfl sz2 rfl rfl) ?_
 refine .e rfl (hlc rfl) (fun hg => sp_loadInt ((hlc rfl).undE hg) agg2 sz2) ?_
 refine .e rfl (hlc rfl) (fun hg => sp_neq ((hlc rfl).undE hg) ((hlc rfl).undE hg)) ?_
 refine .i (sp_or (hlc rfl) ((hlc rfl).weak fun hq => hq)) ?_
 refine .i (sp_move (hlc rfl)) ?_
 refine .em rfl (hlc rfl) rfl e0 ?_
 refine .opE (t := 28) (φ := IsR (SA w S []) (V.d (x))) rfl (hlc rfl) (st_r sub_all) (fun hg => sp_nilR (((hlc rfl).undE hg).refd D_p sub_all)) ?_
 refine .opE (t := 28) (φ := IsR (SA w S []) (D.str (x.t))) rfl (hlc rfl) (st_r sub_all) (fun hg => sp_fieldV ((hlc rfl).undE hg) Tryz.underlying26 rfl sz9 rfl rfl) ?_
 refine .e rfl (hlc rfl) (fun hg => sp_loadStr ((hlc rfl).undE hg) agg9 sz9) ?_
 refine .em rfl (hlc rfl) rfl e1 ?_
 refine .opE (t := 28) (φ := IsR (SA w S []) (V.d (y))) rfl (hlc rfl) (st_r sub_all) (fun hg => sp_nilR (((hlc rfl).undE hg).refd D_q sub_all)) ?_
 refine .opE (t := 28) (φ := IsR (SA w S []) (D.str (y.t))) rfl (hlc rfl) (st_r sub_all) (fun hg => sp_fieldV ((hlc rfl).undE hg) Tryz.underlying26 rfl sz9 rfl rfl) ?_
 refine .e rfl (hlc rfl) (fun hg => sp_loadStr ((hlc rfl).undE hg) agg9 sz9) ?_
 refine .e rfl (hlc rfl) (fun hg => sp_sNeq ((hlc rfl).undE hg) ((hlc rfl).undE hg)) ?_
 refine .i (sp_or (hlc rfl) ((hlc rfl).weak fun hq => hq)) ?_
 refine .i (sp_move (hlc rfl)) ?_
 refine .em rfl (hlc rfl) rfl e0 ?_
 refine .opE (t := 39) (φ := IsR (SA w S []) (V.d (x))) rfl (hlc rfl) (st_r sub_all) (fun hg => sp_nilR (((hlc rfl).undE hg).refd D_p sub_all)) ?_
 refine .opE (t := 39) (φ := IsR (SA w S []) (strsD (x.ns))) rfl (hlc rfl) (st_r sub_all) (fun hg => sp_fieldV ((hlc rfl).undE hg) Tryz.underlying26 rfl sz23 rfl rfl) ?_
 refine .opE (t := 39) (φ := IsD (SA w S []) (strsD (x.ns))) rfl (hlc rfl) (st_d sub_all) (fun hg => sp_loadR ((hlc rfl).undE hg) agg23 sz23 rfl) ?_
 refine .em rfl (hlc rfl) rfl e1 ?_
 refine .opE (t := 39) (φ := IsR (SA w S []) (V.d (y))) rfl (hlc rfl) (st_r sub_all) (fun hg => sp_nilR (((hlc rfl).undE hg).refd D_q sub_all)) ?_
 refine .opE (t := 39) (φ := IsR (SA w S []) (strsD (y.ns))) rfl (hlc rfl) (st_r sub_all) (fun hg => sp_fieldV ((hlc rfl).undE hg) Tryz.underlying26 rfl sz23 rfl rfl) ?_
 refine .opE (t := 39) (φ := IsD (SA w S []) (strsD (y.ns))) rfl (hlc rfl) (st_d sub_all) (fun hg => sp_loadR ((hlc rfl).undE hg) agg23 sz23 rfl) ?_
 refine .e (v := (.bool (decide (x.ns = y.ns)))) rfl (hlc rfl) (fun hg => sp_call2 (φ1 := IsD (SA w S []) (strsD (x.ns))) (φ2 := IsD (SA w S []) (strsD (y.ns))) ent79 ((hlc rfl).undE hg) ((hlc rfl).undE hg) (fun g u1 u2 W hk hgk h1 h2 => equal_ok (x.ns) (y.ns) W _ _ _ h1 h2)) ?_
 refine .e rfl (hlc rfl) (fun hg => sp_not ((hlc rfl).undE hg)) ?_
 refine .i (sp_or (hlc rfl) ((hlc rfl).weak fun hq => hq)) ?_
 refine .i (sp_move (hlc rfl)) ?_
 refine .em rfl (hlc rfl) rfl e0 ?_
 refine .opE (t := 51) (φ := IsR (SA w S []) (V.d (x))) rfl (hlc rfl) (st_r sub_all) (fun hg => sp_nilR (((hlc rfl).undE hg).refd D_p sub_all)) ?_
 refine .opE (t := 51) (φ := IsR (SA w S []) (valsD (x.xs))) rfl (hlc rfl) (st_r sub_all) (fun hg => sp_fieldV ((hlc rfl).undE hg) Tryz.underlying26 rfl sz24 rfl rfl) ?_
 refine .opE (t := 51) (φ := IsD (SA w S []) (valsD (x.xs))) rfl (hlc rfl) (st_d sub_all) (fun hg => sp_loadR ((hlc rfl).undE hg) agg24 sz24 rfl) ?_
 refine .e rfl (hlc rfl) (fun hg => sp_lenVs Tryz.underlying24 ((hlc rfl).undE hg)) ?_
 refine .em rfl (hlc rfl) rfl e1 ?_
 refine .opE (t := 51) (φ := IsR (SA w S []) (V.d (y))) rfl (hlc rfl) (st_r sub_all) (fun hg => sp_nilR (((hlc rfl).undE hg).refd D_q sub_all)) ?_
 refine .opE (t := 51) (φ := IsR (SA w S []) (valsD (y.xs))) rfl (hlc rfl) (st_r sub_all) (fun hg => sp_fieldV ((hlc rfl).undE hg) Tryz.underlying26 rfl sz24 rfl rfl) ?_
 refine .opE (t := 51) (φ := IsD (SA w S []) (valsD (y.xs))) rfl (hlc rfl) (st_d sub_all) (fun hg => sp_loadR ((hlc rfl).undE hg) agg24 sz24 rfl) ?_
 refine .e rfl (hlc rfl) (fun hg => sp_lenVs Tryz.underlying24 ((hlc rfl).undE hg)) ?_
 refine .e rfl (hlc rfl) (fun hg => sp_neq ((hlc rfl).undE hg) ((hlc rfl).undE hg)) ?_
 refine .i (sp_or (hlc rfl) ((hlc rfl).weak fun hq => hq)) ?_
 refine .dn fun a5 g W5 y5 zz5 hk hg hV hR hP => ?_
 obtain ⟨e63, -, -, -, -, -, -, -, -, -, -, -, -, -, -, -, -, -, -, -, -, -, -, -, -, -, -, -, -, -, -, -, -, -, -, -, -, -, -, -, -, -, -, -, -, -, -, -, -, -, -, -, -, -, -, -, -⟩ := hV
 replace e0 := ft hR e0
 replace e1 := ft hR e1
 replace e2 := ft hR e2
 replace D_p := D_p.ext hk
 replace D_q := D_q.ext hk
 replace e63 := e63.q
 replace kw := kw.x hk
 clear hR hk hg hP
 refine zn (hK4 _ _ ?_)
 refine zc e63 (fun hc => ?_) (fun hc => ?_)
 ·
  have hfin : V.beq x y = false := beq_false fun h => by subst h; simp at hc
  refine zq fun K6 hK6 => ?_
  refine rg mixed y5 zz5 ?_
  refine .ac ?_
  refine .dn fun a7 g W7 y7 zz7 hk hg hV hR hP => ?_
  obtain ⟨e6, -⟩ := hV
  replace D_p := D_p.ext hk
  replace D_q := D_q.ext hk
  replace e6 := e6.q
  replace kw := kw.x hk
  clear hR hk hg hP
  refine zn (hK6 _ _ ?_)
  refine wp_ret ?_
  refine ret1 rfl zz7 e6 ⟨_, rfl, kw, ?_⟩
  rw [hfin]
 simp at hc
 obtain ⟨⟨⟨⟨q1, q2⟩, q3⟩, q4⟩, q5⟩ := hc
 refine wp_skip (hK3 _ _ ?_)
 refine zq fun K8 hK8 => ?_
 refine zq fun K9 hK9 => ?_
 refine rg mixed y5 zz5 ?_
 refine .mb rfl e2 ?_
 refine .i (v := (.bool (false))) (sp_nilNeq Tryz.underlying87 (hlc rfl) Has.cst (by simp) rfl) ?_
 refine .dn fun a10 g W10 y10 zz10 hk hg hV hR hP => ?_
 obtain ⟨e65, -, -⟩ := hV
 replace e0 := ft hR e0
 replace e1 := ft hR e1
 replace e2 := ft hR e2
 replace D_p := D_p.ext hk
 replace D_q := D_q.ext hk
 replace e65 := e65.q
 replace kw := kw.x hk
 clear hR hk hg hP
 refine zn (hK9 _ _ ?_)
 refine wp_cond_false e65 ?_
 refine wp_skip (hK8 _ _ ?_)
 refine zq fun K11 hK11 => ?_
 refine zq fun K12 hK12 => ?_
 refine rg mixed y10 zz10 ?_
 refine .mb rfl e0 ?_
 refine .rf (sp_nilR ((hlc rfl).refd D_p sub_all)) ?_
 refine .rf (X := SA w S []) (e := valsD (x.xs)) (sp_fieldV (hlc rfl) Tryz.underlying26 rfl sz24 rfl rfl) ?_
 refine .da (X := SA w S []) (e := valsD (x.xs)) (sp_loadR (hlc rfl) agg24 sz24 rfl) ?_
 refine .i (sp_lenVs Tryz.underlying24 (hlc rfl)) ?_
 refine .i (sp_move Has.cst) ?_
 refine .dn fun a13 g W13 y13 zz13 hk hg hV hR hP => ?_
 obtain ⟨e88, e87, -, -, -, -, -⟩ := hV
 replace e0 := ft hR e0
 replace e1 := ft hR e1
 replace e2 := ft hR e2
 replace D_p := D_p.ext hk
 replace D_q := D_q.ext hk
 replace e87 := e87.q
 replace e88 := e88.q
 replace kw := kw.x hk
 clear hR hk hg hP
 refine zn (hK12 _ _ ?_)
 refine wp_block ?_
 refine wp_for (x.xs.length) (fun k a W => a.tmps.size = 107 ∧ a.defers = [] ∧ Keeps All w W ∧ sl a 0 = p ∧ sl a 1 = q ∧ sl a 2 = (.pointer none) ∧ sl a 87 = (.int .i64 (x.xs.length)) ∧ sl a 88 = (.int .i64 ((k : Nat))) ∧ Ref W (SA w S []) (V.d (x)) p ∧ Ref W (SA w S []) (V.d (y)) q ∧ (∀ i (h1 : i < x.xs.length) (h2 : i < y.xs.length), i < k → x.xs[i] = y.xs[i])) ⟨y13, zz13, kw, e0, e1, e2, e87, (e88.trans (congrArg (Value.int .i64) (rfl))), D_p, D_q, fun i h1 h2 hi => absurd hi (by omega)⟩ ?_
 clear kw e0 e1 e2 e87 e88 D_p D_q
 rintro k a14 W14 hkk ⟨y14, zz14, kw, e0, e1, e2, e87, e88, D_p, D_q, hinv⟩
 refine zq fun K15 hK15 => ?_
 refine rg mixed y14 zz14 ?_
 refine .i (sp_lss (hbs rfl e88) (hbs rfl e87)) ?_
 refine .dn fun a16 g W16 y16 zz16 hk hg hV hR hP => ?_
 obtain ⟨e89, -⟩ := hV
 replace e0 := ft hR e0
 replace e1 := ft hR e1
 replace e2 := ft hR e2
 replace e87 := ft hR e87
 replace e88 := ft hR e88
 replace D_p := D_p.ext hk
 replace D_q := D_q.ext hk
 replace e89 := e89.q
 replace kw := kw.x hk
 clear hR hk hg hP
 refine zn (hK15 _ _ ?_)
 refine zq fun K17 hK17 => ?_
 refine zc e89 (fun hc => ?_) (fun hc => ?_)
 ·
  have hlt : k < x.xs.length := by simpa using hc
  have hce := cnt_elem hlt
  have hcq := cnt_eq x
  refine wp_skip (hK17 _ _ ?_)
  refine zq fun K18 hK18 => ?_
  refine wp_block ?_
  refine zq fun K19 hK19 => ?_
  refine rg mixed y16 zz16 ?_
  refine .mb rfl e88 ?_
  refine .al rfl ?_
  refine .dn fun a20 g W20 y20 zz20 hk hg hV hR hP => ?_
  obtain ⟨e7, -, -⟩ := hV
  replace e0 := ft hR e0
  replace e1 := ft hR e1
  replace e2 := ft hR e2
  replace e87 := ft hR e87
  replace e88 := ft hR e88
  replace D_p := D_p.ext hk
  replace D_q := D_q.ext hk
  replace e7 := e7.q
  replace kw := kw.x hk
  clear hR hk hg hP
  refine zn (hK19 _ _ ?_)
  refine zq fun K21 hK21 => ?_
  refine rg mixed y20 zz20 ?_
  refine .mb rfl e0 ?_
  refine .rf (sp_nilR ((hlc rfl).refd D_p sub_all)) ?_
  refine .rf (X := SA w S []) (e := valsD (x.xs)) (sp_fieldV (hlc rfl) Tryz.underlying26 rfl sz24 rfl rfl) ?_
  refine .da (X := SA w S []) (e := valsD (x.xs)) (sp_loadR (hlc rfl) agg24 sz24 rfl) ?_
  refine .mb rfl e7 ?_
  refine .rf (sp_indexV (i := k) (hlc rfl) (hlc rfl) Tryz.underlying24 sz26 rfl hlt) ?_
  refine .mb rfl e1 ?_
  refine .rf (sp_nilR ((hlc rfl).refd D_q sub_all)) ?_
  refine .rf (X := SA w S []) (e := valsD (y.xs)) (sp_fieldV (hlc rfl) Tryz.underlying26 rfl sz24 rfl rfl) ?_
  refine .da (X := SA w S []) (e := valsD (y.xs)) (sp_loadR (hlc rfl) agg24 sz24 rfl) ?_
  refine .mb rfl e7 ?_
  refine .rf (sp_indexV (i := k) (hlc rfl) (hlc rfl) Tryz.underlying24 sz26 rfl (by omega)) ?_
  refine .mb rfl e2 ?_
  refine .i (v := (.bool (V.beq (x.xs[k]'hlt) (y.xs[k]'(by omega))))) (sp_call3 (φ1 := IsR (SA w S []) (V.d (x.xs[k]'hlt))) (φ2 := IsR (SA w S []) (V.d (y.xs[k]'(by omega)))) (φ3 := Is (.pointer none)) ent66 (hlc rfl) (hlc rfl) (hlc rfl) (fun g u1 u2 u3 W hk hgk h1 h2 h3 => by have h3 : u3 = _ := h3; subst u3; exact ih (x.xs[k]'hlt) (y.xs[k]'(by omega)) (by omega) (by omega) W _ _ _ h1 h2)) ?_
  refine .i (sp_not (hlc rfl)) ?_
  refine .dn fun a22 g W22 y22 zz22 hk hg hV hR hP => ?_
  obtain ⟨e105, -, -, -, -, -, -, -, -, -, -, -, -, -, -, -⟩ := hV
  replace e0 := ft hR e0
  replace e1 := ft hR e1
  replace e2 := ft hR e2
  replace e87 := ft hR e87
  replace e88 := ft hR e88
  replace D_p := D_p.ext hk
  replace D_q := D_q.ext hk
  replace e105 := e105.q
  replace kw := kw.x hk
  clear hR hk hg hP
  refine zn (hK21 _ _ ?_)
  refine zc e105 (fun hc => ?_) (fun hc => ?_)
  ·
   have hfin : V.beq x y = false := beq_false fun h => by subst h; simp [beq_refl] at hc
   refine zq fun K23 hK23 => ?_
   refine rg mixed y22 zz22 ?_
   refine .ac ?_
   refine .dn fun a24 g W24 y24 zz24 hk hg hV hR hP => ?_
   obtain ⟨e6, -⟩ := hV
   replace D_p := D_p.ext hk
   replace D_q := D_q.ext hk
   replace e6 := e6.q
   replace kw := kw.x hk
   clear hR hk hg hP
   refine zn (hK23 _ _ ?_)
   refine wp_ret ?_
   refine ret1 rfl zz24 e6 ⟨_, rfl, kw, ?_⟩
   rw [hfin]
  have hk1 : x.xs[k] = y.xs[k] := (beq_iff _ _).1 (by simpa using hc)
  refine wp_skip (hK18 _ _ ?_)
  refine rg mixed y22 zz22 ?_
  refine .i (sp_add (hbs rfl e88) Has.cst (i64_in (by omega))) ?_
  refine .i (sp_move (hlc rfl)) ?_
  refine .dn fun a25 g W25 y25 zz25 hk hg hV hR hP => ?_
  obtain ⟨e88, -, -⟩ := hV
  replace e0 := ft hR e0
  replace e1 := ft hR e1
  replace e2 := ft hR e2
  replace e87 := ft hR e87
  replace D_p := D_p.ext hk
  replace D_q := D_q.ext hk
  replace e88 := e88.q
  replace kw := kw.x hk
  clear hR hk hg hP
  exact tail_nil ⟨hlt, y25, zz25, kw, e0, e1, e2, e87, (e88.trans (congrArg (Value.int .i64) (by simp))), D_p, D_q, fun i h1 h2 hi => by rcases Nat.lt_succ_iff_lt_or_eq.1 hi with h | h; exact hinv i h1 h2 h; subst h; exact hk1⟩
 have hge0 : ¬ k < x.xs.length := by simpa using hc
 have hge : k = x.xs.length := by omega
 have hfin : V.beq x y = true := (beq_iff x y).2 (V.ext (by omega) q2 q3 q4 (List.ext_getElem (by omega) fun i h1 h2 => hinv i h1 h2 (by omega)))
 refine wp_exit (hK11 _ _ ?_)
 refine zq fun K26 hK26 => ?_
 refine rg mixed y16 zz16 ?_
 refine .ac ?_
 refine .dn fun a27 g W27 y27 zz27 hk hg hV hR hP => ?_
 obtain ⟨e6, -⟩ := hV
 replace D_p := D_p.ext hk
 replace D_q := D_q.ext hk
 replace e6 := e6.q
 replace kw := kw.x hk
 clear hR hk hg hP
 refine zn (hK26 _ _ ?_)
 refine wp_ret ?_
 refine ret1 rfl zz27 e6 ⟨_, rfl, kw, ?_⟩
 rw [hfin]
set_option maxRecDepth 100000 in
theorem Same_ok (x y : V) (hx : x.cnt ≤ 1073741824) (hy : y.cnt ≤ 1073741824) (w : World) (S : BSet) (v u : Value) (hS : ∀ b o, S b o → Cln o) (hv : Rd w S x.d v) (hu : Rd w S y.d u) : Calls Tryz.prog 44 #[v, u] w (Ret w fun u _ => u = .bool (V.beq x y)) := by
 have hcx := cnt_eq x
 have hcy := cnt_eq y
 obtain ⟨cn0a, cn0c, ci0a, ci0c, ev, ht0, D_cn0, D_ci0⟩ := rdV_out (rd_arg hv)
 subst ev
 obtain ⟨cn1a, cn1c, ci1a, ci1c, ev, ht1, D_cn1, D_ci1⟩ := rdV_out (rd_arg hu)
 subst ev
 refine enter Tryz.func44 rfl Tryz.ntmps44 (lbr rfl) fun a0 y0 zz0 harg => ?_
 have e0 : sl a0 0 = (.agg #[(.int .u8 (x.k)), (.int .i64 (x.n)), (.string (x.t)), (.slice cn0a (x.ns.length) cn0c), (.slice ci0a (x.xs.length) ci0c)]) := harg 0 (lbr rfl)
 have e1 : sl a0 1 = (.agg #[(.int .u8 (y.k)), (.int .i64 (y.n)), (.string (y.t)), (.slice cn1a (y.ns.length) cn1c), (.slice ci1a (y.xs.length) ci1c)]) := harg 1 (lbr rfl)
 have kw := Keeps.refl All w
 clear harg
 refine zq fun K1 hK1 => ?_
 refine rg mixed y0 zz0 ?_
 refine .boxOp (v := (.agg #[(.int .u8 (x.k)), (.int .i64 (x.n)), (.string (x.t)), (.slice cn0a (x.ns.length) cn0c), (.slice ci0a (x.xs.length) ci0c)])) (hbs rfl e0) ?_
 refine .boxOp (v := (.agg #[(.int .u8 (y.k)), (.int .i64 (y.n)), (.string (y.t)), (.slice cn1a (y.ns.length) cn1c), (.slice ci1a (y.xs.length) ci1c)])) (hbs rfl e1) ?_
 refine .ac ?_
 refine .dn fun a2 g W2 y2 zz2 hk hg hV hR hP => ?_
 obtain ⟨-, ⟨b3_2, e3, hb3, own_b3_2⟩, ⟨b2_2, e2, hb2, own_b2_2⟩, -⟩ := hV
 have lo_b3_2 : w.heap.size ≤ b3_2 := Nat.le_trans kw.size (hg.lo _ _ hb3)
 have own_b3_2 : Own W2 b3_2 [(.int .u8 (y.k)), (.int .i64 (y.n)), (.string (y.t)), (.slice cn1a (y.ns.length) cn1c), (.slice ci1a (y.xs.length) ci1c)] 26 := own_b3_2
 have lo_b2_2 : w.heap.size ≤ b2_2 := Nat.le_trans kw.size (hg.lo _ _ hb2)
 have own_b2_2 : Own W2 b2_2 [(.int .u8 (x.k)), (.int .i64 (x.n)), (.string (x.t)), (.slice cn0a (x.ns.length) cn0c), (.slice ci0a (x.xs.length) ci0c)] 26 := own_b2_2
 have ne_b3_2_b2_2 : b3_2 ≠ b2_2 := fun h => by have := hg.inj _ _ _ hb3 (h ▸ hb2); cases this
 replace D_cn0 := sa_more D_cn0 hk [b3_2, b2_2] (in_cons (hg.lo _ _ hb3) (in_cons (hg.lo _ _ hb2) in_nil))
 replace D_ci0 := sa_more D_ci0 hk [b3_2, b2_2] (in_cons (hg.lo _ _ hb3) (in_cons (hg.lo _ _ hb2) in_nil))
 replace D_cn1 := sa_more D_cn1 hk [b3_2, b2_2] (in_cons (hg.lo _ _ hb3) (in_cons (hg.lo _ _ hb2) in_nil))
 replace D_ci1 := sa_more D_ci1 hk [b3_2, b2_2] (in_cons (hg.lo _ _ hb3) (in_cons (hg.lo _ _ hb2) in_nil))
 replace kw := kw.x hk
 clear hR hk hg hP hb3 hb2
 refine zn (hK1 _ _ ?_)
 refine zq fun K3 hK3 => ?_
 refine rg mixed y2 zz2 ?_
 refine .i (fo 4 (hbs rfl e2) Tryz.underlying26 rfl sz24 rfl) ?_
 refine .i (lo1 (hlc rfl) own_b2_2 trivial agg24 sz24 rfl) ?_
 refine .i (v := (.bool (false))) (sp_call4 (φ1 := IsD (SA w S [b3_2, b2_2]) (valsD (x.xs))) (φ2 := Is (.int .i64 (1))) (φ3 := Is (.pointer none)) (φ4 := Is (.bool (false))) ent65 ((hlc rfl).dat D_ci0 sub_all) Has.cst Has.cst Has.cst (fun g u1 u2 u3 u4 W hk hgk h1 h2 h3 h4 => by have h2 : u2 = _ := h2; subst u2; have h3 : u3 = _ := h3; subst u3; have h4 : u4 = _ := h4; subst u4; exact endless_all _ (x.xs) (Nat.lt_succ_self _) (1) (by omega) (by omega) (false) _ W _ _ (fun b o h => sa_cln hS b o h.1) h1 (Or.inl rfl))) ?_
 refine .al rfl ?_
 refine .dn fun a4 g W4 y4 zz4 hk hg hV hR hP => ?_
 obtain ⟨e5, -, -, -, -⟩ := hV
 replace e3 := ft hR e3
 replace e2 := ft hR e2
 replace D_cn0 := D_cn0.ext hk
 replace D_ci0 := D_ci0.ext hk
 replace D_cn1 := D_cn1.ext hk
 replace D_ci1 := D_ci1.ext hk
 replace e5 := e5.q
 replace own_b3_2 := own_b3_2.ext hk
 replace own_b2_2 := own_b2_2.ext hk
 replace kw := kw.x hk
 clear hR hk hg hP
 refine zn (hK3 _ _ ?_)
 refine zq fun K5 hK5 => ?_
 refine zq fun K6 hK6 => ?_
 refine rg mixed y4 zz4 ?_
 refine .mb rfl e5 ?_
 refine .i (fo 4 (hbs rfl e3) Tryz.underlying26 rfl sz24 rfl) ?_
 refine .i (lo1 (hlc rfl) own_b3_2 trivial agg24 sz24 rfl) ?_
 refine .i (v := (.bool (false))) (sp_call4 (φ1 := IsD (SA w S [b3_2, b2_2]) (valsD (y.xs))) (φ2 := Is (.int .i64 (1))) (φ3 := Is (.pointer none)) (φ4 := Is (.bool (false))) ent65 ((hlc rfl).dat D_ci1 sub_all) Has.cst Has.cst Has.cst (fun g u1 u2 u3 u4 W hk hgk h1 h2 h3 h4 => by have h2 : u2 = _ := h2; subst u2; have h3 : u3 = _ := h3; subst u3; have h4 : u4 = _ := h4; subst u4; exact endless_all _ (y.xs) (Nat.lt_succ_self _) (1) (by omega) (by omega) (false) _ W _ _ (fun b o h => sa_cln hS b o h.1) h1 (Or.inl rfl))) ?_
 refine .i (sp_bNeq Tryz.underlying4 (hlc rfl) (hlc rfl)) ?_
 refine .dn fun a7 g W7 y7 zz7 hk hg hV hR hP => ?_
 obtain ⟨e14, -, -, -, -, -⟩ := hV
 replace e3 := ft hR e3
 replace e2 := ft hR e2
 replace e5 := ft hR e5
 replace D_cn0 := D_cn0.ext hk
 replace D_ci0 := D_ci0.ext hk
 replace D_cn1 := D_cn1.ext hk
 replace D_ci1 := D_ci1.ext hk
 replace e14 := e14.q
 replace own_b3_2 := own_b3_2.ext hk
 replace own_b2_2 := own_b2_2.ext hk
 replace kw := kw.x hk
 clear hR hk hg hP
 refine zn (hK6 _ _ ?_)
 refine wp_cond_false (e14.trans (congrArg Value.bool (by decide))) ?_
 refine wp_skip (hK5 _ _ ?_)
 refine zq fun K8 hK8 => ?_
 refine zq fun K9 hK9 => ?_
 refine rg mixed y7 zz7 ?_
 refine .mb rfl e5 ?_
 refine .dn fun a10 g W10 y10 zz10 hk hg hV hR hP => ?_
 obtain ⟨e15, -⟩ := hV
 replace e3 := ft hR e3
 replace e2 := ft hR e2
 replace D_cn0 := D_cn0.ext hk
 replace D_ci0 := D_ci0.ext hk
 replace D_cn1 := D_cn1.ext hk
 replace D_ci1 := D_ci1.ext hk
 replace e15 := e15.q
 replace own_b3_2 := own_b3_2.ext hk
 replace own_b2_2 := own_b2_2.ext hk
 replace kw := kw.x hk
 clear hR hk hg hP
 refine zn (hK9 _ _ ?_)
 refine wp_cond_false e15 ?_
 refine wp_skip (hK8 _ _ ?_)
 refine zq fun K11 hK11 => ?_
 refine rg mixed y10 zz10 ?_
 refine .i (v := (.bool (V.beq (x) (y)))) (sp_call3 (φ1 := IsR (SA w S []) (V.d (x))) (φ2 := IsR (SA w S []) (V.d (y))) (φ3 := Is (.pointer none)) ent66 ((hbs rfl e2).refB own_b2_2 lo_b2_2 (rdV_in (x := x) ht0 D_cn0 D_ci0 : Rd W10 (SA w S [b3_2, b2_2]) (V.d (x)) _)) ((hbs rfl e3).refB own_b3_2 lo_b3_2 (rdV_in (x := y) ht1 D_cn1 D_ci1 : Rd W10 (SA w S [b3_2, b2_2]) (V.d (y)) _)) Has.cst (fun g u1 u2 u3 W hk hgk h1 h2 h3 => by have h3 : u3 = _ := h3; subst u3; exact same_all _ (x) (y) (Nat.le_refl _) (by omega) W _ _ _ h1 h2)) ?_
 refine .al rfl ?_
 refine .dn fun a12 g W12 y12 zz12 hk hg hV hR hP => ?_
 obtain ⟨e4, -, -⟩ := hV
 replace D_cn0 := D_cn0.ext hk
 replace D_ci0 := D_ci0.ext hk
 replace D_cn1 := D_cn1.ext hk
 replace D_ci1 := D_ci1.ext hk
 replace e4 := e4.q
 replace own_b3_2 := own_b3_2.ext hk
 replace own_b2_2 := own_b2_2.ext hk
 replace kw := kw.x hk
 clear hR hk hg hP
 refine zn (hK11 _ _ ?_)
 refine wp_ret ?_
 refine ret1 rfl zz12 e4 ⟨_, rfl, kw, ?_⟩
 exact rfl
end Go.Proofs.YtnobijngkpflcaaGreat
namespace Go.Proofs.YtnobijngkpflcaaGreat
open Go.Eng
set_option maxRecDepth 100000 in
theorem refSame_all : ∀ (n : Nat) (x y : V), x.cnt ≤ n → n ≤ 1073741824 → ∀ (w : World) (S : BSet) (v u : Value), Rd w S x.d v → Rd w S y.d u → Calls Tryz.prog 14 #[v, u] w (Ret w fun u _ => u = .bool (V.beq x y)) := by
 intro n
 induction n with
 | zero => intro x y hx; cases x; simp [V.cnt] at hx
 | succ n ih =>
 intro x y hx hn w S v u hv hu
 have hlx := len_cnts x.xs
 have hcx := cnt_eq x
 have hmn : x.ns.length ≤ maxLen := by obtain ⟨_, _, _, _, _, _, h, _⟩ := rdV_out hv; exact rd_lenS h
 simp only [maxLen] at hmn
 obtain ⟨cn0a, cn0c, ci0a, ci0c, ev, ht0, D_cn0, D_ci0⟩ := rdV_out (rd_arg hv)
 subst ev
 obtain ⟨cn1a, cn1c, ci1a, ci1c, ev, ht1, D_cn1, D_ci1⟩ := rdV_out (rd_arg hu)
 subst ev
 refine enter Tryz.func14 rfl Tryz.ntmps14 (lbr rfl) fun a0 y0 zz0 harg => ?_
 have e0 : sl a0 0 = (.agg #[(.int .u8 (x.k)), (.int .i64 (x.n)), (.string (x.t)), (.slice cn0a (x.ns.length) cn0c), (.slice ci0a (x.xs.length) ci0c)]) := harg 0 (lbr rfl)
 have e1 : sl a0 1 = (.agg #[(.int .u8 (y.k)), (.int .i64 (y.n)), (.string (y.t)), (.slice cn1a (y.ns.length) cn1c), (.slice ci1a (y.xs.length) ci1c)]) := harg 1 (lbr rfl)
 have kw := Keeps.refl All w
 clear harg
 refine zq fun K1 hK1 => ?_
 refine rg mixed y0 zz0 ?_
 refine .boxOp (v := (.agg #[(.int .u8 (x.k)), (.int .i64 (x.n)), (.string (x.t)), (.slice cn0a (x.ns.length) cn0c), (.slice ci0a (x.xs.length) ci0c)])) (hbs rfl e0) ?_
 refine .boxOp (v := (.agg #[(.int .u8 (y.k)), (.int .i64 (y.n)), (.string (y.t)), (.slice cn1a (y.ns.length) cn1c), (.slice ci1a (y.xs.length) ci1c)])) (hbs rfl e1) ?_
 refine .ac ?_
 refine .dn fun a2 g W2 y2 zz2 hk hg hV hR hP => ?_
 obtain ⟨-, ⟨b3_2, e3, hb3, own_b3_2⟩, ⟨b2_2, e2, hb2, own_b2_2⟩, -⟩ := hV
 have lo_b3_2 : w.heap.size ≤ b3_2 := Nat.le_trans kw.size (hg.lo _ _ hb3)
 have own_b3_2 : Own W2 b3_2 [(.int .u8 (y.k)), (.int .i64 (y.n)), (.string (y.t)), (.slice cn1a (y.ns.length) cn1c), (.slice ci1a (y.xs.length) ci1c)] 26 := own_b3_2
 have lo_b2_2 : w.heap.size ≤ b2_2 := Nat.le_trans kw.size (hg.lo _ _ hb2)
 have own_b2_2 : Own W2 b2_2 [(.int .u8 (x.k)), (.int .i64 (x.n)), (.string (x.t)), (.slice cn0a (x.ns.length) cn0c), (.slice ci0a (x.xs.length) ci0c)] 26 := own_b2_2
 have ne_b3_2_b2_2 : b3_2 ≠ b2_2 := fun h => by have := hg.inj _ _ _ hb3 (h ▸ hb2); cases this
 replace D_cn0 := sa_more D_cn0 hk [b3_2, b2_2] (in_cons (hg.lo _ _ hb3) (in_cons (hg.lo _ _ hb2) in_nil))
 replace D_ci0 := sa_more D_ci0 hk [b3_2, b2_2] (in_cons (hg.lo _ _ hb3) (in_cons (hg.lo _ _ hb2) in_nil))
 replace D_cn1 := sa_more D_cn1 hk [b3_2, b2_2] (in_cons (hg.lo _ _ hb3) (in_cons (hg.lo _ _ hb2) in_nil))
 replace D_ci1 := sa_more D_ci1 hk [b3_2, b2_2] (in_cons (hg.lo _ _ hb3) (in_cons (hg.lo _ _ hb2) in_nil))
 replace kw := kw.x hk
 clear hR hk hg hP hb3 hb2
 refine zn (hK1 _ _ ?_)
 refine zq fun K3 hK3 => ?_
 refine zq fun K4 hK4 => ?_
 refine rg mixed y2 zz2 ?_
 refine .i (fo 0 (hbs rfl e2) Tryz.underlying26 rfl sz5 rfl) ?_
 refine .i (lo1 (hlc rfl) own_b2_2 trivial agg5 sz5 rfl) ?_
 refine .i (fo 0 (hbs rfl e3) Tryz.underlying26 rfl sz5 rfl) ?_
 refine .i (lo1 (hlc rfl) own_b3_2 trivial agg5 sz5 rfl) ?_
 refine .i (sp_neq (hlc rfl) (hlc rfl)) ?_
 refine .i (sp_move (hlc rfl)) ?_
 refine .e rfl (hlc rfl) (fun hg => fo 1 (hbs rfl e2) Tryz.underlying26 rfl sz2 rfl) ?_
 refine .e rfl (hlc rfl) (fun hg => lo1 ((hlc rfl).undE hg) own_b2_2 trivial agg2 sz2 rfl) ?_
 refine .e rfl (hlc rfl) (fun hg => fo 1 (hbs rfl e3) Tryz.underlying26 rfl sz2 rfl) ?_
 refine .e rfl (hlc rfl) (fun hg => lo1 ((hlc rfl).undE hg) own_b3_2 trivial agg2 sz2 rfl) ?_
 refine .e rfl (hlc rfl) (fun hg => sp_neq ((hlc rfl).undE hg) ((hlc rfl).undE hg)) ?_
 refine .i (sp_or (hlc rfl) ((hlc rfl).weak fun hq => hq)) ?_
 refine .i (sp_move (hlc rfl)) ?_
 refine .e rfl (hlc rfl) (fun hg => fo 2 (hbs rfl e2) Tryz.underlying26 rfl sz9 rfl) ?_
 refine .e rfl (hlc rfl) (fun hg => lo1 ((hlc rfl).undE hg) own_b2_2 trivial agg9 sz9 rfl) ?_
 refine .e rfl (hlc rfl) (fun hg => fo 2 (hbs rfl e3) Tryz.underlying26 rfl sz9 rfl) ?_
 refine .e rfl (hlc rfl) (fun hg => lo1 ((hlc rfl).undE hg) own_b3_2 trivial agg9 sz9 rfl) ?_
 refine .e rfl (hlc rfl) (fun hg => sp_sNeq ((hlc rfl).undE hg) ((hlc rfl).undE hg)) ?_
 refine .i (sp_or (hlc rfl) ((hlc rfl).weak fun hq => hq)) ?_
 refine .i (sp_move (hlc rfl)) ?_
 refine .e rfl (hlc rfl) (fun hg => fo 3 (hbs rfl e2) Tryz.underlying26 rfl sz23 rfl) ?_
 refine .e rfl (hlc rfl) (fun hg => lo1 ((hlc rfl).undE hg) own_b2_2 trivial agg23 sz23 rfl) ?_
 refine .e rfl (hlc rfl) (fun hg => sp_lenSs Tryz.underlying23 (((hlc rfl).undE hg).dat D_cn0 sub_all)) ?_
 refine .e rfl (hlc rfl) (fun hg => fo 3 (hbs rfl e3) Tryz.underlying26 rfl sz23 rfl) ?_
 refine .e rfl (hlc rfl) (fun hg => lo1 ((hlc rfl).undE hg) own_b3_2 trivial agg23 sz23 rfl) ?_
 refine .e rfl (hlc rfl) (fun hg => sp_lenSs Tryz.underlying23 (((hlc rfl).undE hg).dat D_cn1 sub_all)) ?_
 refine .e rfl (hlc rfl) (fun hg => sp_neq ((hlc rfl).undE hg) ((hlc rfl).undE hg)) ?_
 refine .i (sp_or (hlc rfl) ((hlc rfl).weak fun hq => hq)) ?_
 refine .i (sp_move (hlc rfl)) ?_
 refine .e rfl (hlc rfl) (fun hg => fo 4 (hbs rfl e2) Tryz.underlying26 rfl sz24 rfl) ?_
 refine .e rfl (hlc rfl) (fun hg => lo1 ((hlc rfl).undE hg) own_b2_2 trivial agg24 sz24 rfl) ?_
 refine .e rfl (hlc rfl) (fun hg => sp_lenVs Tryz.underlying24 (((hlc rfl).undE hg).dat D_ci0 sub_all)) ?_
 refine .e rfl (hlc rfl) (fun hg => fo 4 (hbs rfl e3) Tryz.underlying26 rfl sz24 rfl) ?_
 refine .e rfl (hlc rfl) (fun hg => lo1 ((hlc rfl).undE hg) own_b3_2 trivial agg24 sz24 rfl) ?_
 refine .e rfl (hlc rfl) (fun hg => sp_lenVs Tryz.underlying24 (((hlc rfl).undE hg).dat D_ci1 sub_all)) ?_
 refine .e rfl (hlc rfl) (fun hg => sp_neq ((hlc rfl).undE hg) ((hlc rfl).undE hg)) ?_
 refine .i (sp_or (hlc rfl) ((hlc rfl).weak fun hq => hq)) ?_
 refine .dn fun a5 g W5 y5 zz5 hk hg hV hR hP => ?_
 obtain ⟨e43, -, -, -, -, -, -, -, -, -, -, -, -, -, -, -, -, -, -, -, -, -, -, -, -, -, -, -, -, -, -, -, -, -, -, -, -, -⟩ := hV
 replace e3 := ft hR e3
 replace e2 := ft hR e2
 replace D_cn0 := D_cn0.ext hk
 replace D_ci0 := D_ci0.ext hk
 replace D_cn1 := D_cn1.ext hk
 replace D_ci1 := D_ci1.ext hk
 replace e43 := e43.q
 replace own_b3_2 := own_b3_2.ext hk
 replace own_b2_2 := own_b2_2.ext hk
 replace kw := kw.x hk
 clear hR hk hg hP
 refine zn (hK4 _ _ ?_)
 refine zc e43 (fun hc => ?_) (fun hc => ?_)
 ·
  have hfin : V.beq x y = false := beq_false fun h => by subst h; simp at hc
  refine zq fun K6 hK6 => ?_
  refine rg mixed y5 zz5 ?_
  refine .ac ?_
  refine .dn fun a7 g W7 y7 zz7 hk hg hV hR hP => ?_
  obtain ⟨e4, -⟩ := hV
  replace D_cn0 := D_cn0.ext hk
  replace D_ci0 := D_ci0.ext hk
  replace D_cn1 := D_cn1.ext hk
  replace D_ci1 := D_ci1.ext hk
  replace e4 := e4.q
  replace own_b3_2 := own_b3_2.ext hk
  replace own_b2_2 := own_b2_2.ext hk
  replace kw := kw.x hk
  clear hR hk hg hP
  refine zn (hK6 _ _ ?_)
  refine wp_ret ?_
  refine ret1 rfl zz7 e4 ⟨_, rfl, kw, ?_⟩
  rw [hfin]
 simp at hc
 obtain ⟨⟨⟨⟨q1, q2⟩, q3⟩, q4⟩, q5⟩ := hc
 refine wp_skip (hK3 _ _ ?_)
 refine zq fun K8 hK8 => ?_
 refine zq fun K9 hK9 => ?_
 refine rg mixed y5 zz5 ?_
 refine .ac ?_
 refine .dn fun a10 g W10 y10 zz10 hk hg hV hR hP => ?_
 obtain ⟨e5, -⟩ := hV
 replace e3 := ft hR e3
 replace e2 := ft hR e2
 replace D_cn0 := D_cn0.ext hk
 replace D_ci0 := D_ci0.ext hk
 replace D_cn1 := D_cn1.ext hk
 replace D_ci1 := D_ci1.ext hk
 replace e5 := e5.q
 replace own_b3_2 := own_b3_2.ext hk
 replace own_b2_2 := own_b2_2.ext hk
 replace kw := kw.x hk
 clear hR hk hg hP
 refine zn (hK9 _ _ ?_)
 refine wp_block ?_
 refine wp_for (x.ns.length) (fun k a W => a.tmps.size = 81 ∧ a.defers = [] ∧ Keeps All w W ∧ sl a 2 = (.pointer (some ⟨b2_2, 0, none⟩)) ∧ sl a 3 = (.pointer (some ⟨b3_2, 0, none⟩)) ∧ sl a 5 = (.int .i64 ((k : Nat))) ∧ Own W b3_2 [(.int .u8 (y.k)), (.int .i64 (y.n)), (.string (y.t)), (.slice cn1a (y.ns.length) cn1c), (.slice ci1a (y.xs.length) ci1c)] 26 ∧ Own W b2_2 [(.int .u8 (x.k)), (.int .i64 (x.n)), (.string (x.t)), (.slice cn0a (x.ns.length) cn0c), (.slice ci0a (x.xs.length) ci0c)] 26 ∧ Rd W (SA w S [b3_2, b2_2]) (strsD (x.ns)) (.slice cn0a (x.ns.length) cn0c) ∧ Rd W (SA w S [b3_2, b2_2]) (valsD (x.xs)) (.slice ci0a (x.xs.length) ci0c) ∧ Rd W (SA w S [b3_2, b2_2]) (strsD (y.ns)) (.slice cn1a (y.ns.length) cn1c) ∧ Rd W (SA w S [b3_2, b2_2]) (valsD (y.xs)) (.slice ci1a (y.xs.length) ci1c) ∧ (∀ i (h1 : i < x.ns.length) (h2 : i < y.ns.length), i < k → x.ns[i] = y.ns[i])) ⟨y10, zz10, kw, e2, e3, (e5.trans (congrArg (Value.int .i64) (rfl))), own_b3_2, own_b2_2, D_cn0, D_ci0, D_cn1, D_ci1, fun i h1 h2 hi => absurd hi (by omega)⟩ ?_
 clear kw e2 e3 e5 own_b3_2 own_b2_2 D_cn0 D_ci0 D_cn1 D_ci1
 rintro k a11 W11 hkk ⟨y11, zz11, kw, e2, e3, e5, own_b3_2, own_b2_2, D_cn0, D_ci0, D_cn1, D_ci1, hinv⟩
 refine zq fun K12 hK12 => ?_
 refine zq fun K13 hK13 => ?_
 refine rg mixed y11 zz11 ?_
 refine .mb rfl e5 ?_
 refine .i (fo 3 (hbs rfl e2) Tryz.underlying26 rfl sz23 rfl) ?_
 refine .i (lo1 (hlc rfl) own_b2_2 trivial agg23 sz23 rfl) ?_
 refine .i (sp_lenSs Tryz.underlying23 ((hlc rfl).dat D_cn0 sub_all)) ?_
 refine .i (sp_lss (hlc rfl) (hlc rfl)) ?_
 refine .dn fun a14 g W14 y14 zz14 hk hg hV hR hP => ?_
 obtain ⟨e48, -, -, -, -, -⟩ := hV
 replace e3 := ft hR e3
 replace e2 := ft hR e2
 replace e5 := ft hR e5
 replace D_cn0 := D_cn0.ext hk
 replace D_ci0 := D_ci0.ext hk
 replace D_cn1 := D_cn1.ext hk
 replace D_ci1 := D_ci1.ext hk
 replace e48 := e48.q
 replace own_b3_2 := own_b3_2.ext hk
 replace own_b2_2 := own_b2_2.ext hk
 replace kw := kw.x hk
 clear hR hk hg hP
 refine zn (hK13 _ _ ?_)
 refine zc e48 (fun hc => ?_) (fun hc => ?_)
 ·
  have hlt : k < x.ns.length := by simpa using hc
  refine wp_skip (hK12 _ _ ?_)
  refine zq fun K15 hK15 => ?_
  refine wp_block ?_
  refine zq fun K16 hK16 => ?_
  refine rg mixed y14 zz14 ?_
  refine .i (fo 3 (hbs rfl e2) Tryz.underlying26 rfl sz23 rfl) ?_
  refine .i (lo1 (hlc rfl) own_b2_2 trivial agg23 sz23 rfl) ?_
  refine .mb rfl e5 ?_
  refine .rf (sp_indexS (i := k) ((hlc rfl).dat D_cn0 sub_all) (hlc rfl) Tryz.underlying23 sz9 rfl hlt) ?_
  refine .i (sp_loadStr (hlc rfl) agg9 sz9) ?_
  refine .i (fo 3 (hbs rfl e3) Tryz.underlying26 rfl sz23 rfl) ?_
  refine .i (lo1 (hlc rfl) own_b3_2 trivial agg23 sz23 rfl) ?_
  refine .mb rfl e5 ?_
  refine .rf (sp_indexS (i := k) ((hlc rfl).dat D_cn1 sub_all) (hlc rfl) Tryz.underlying23 sz9 rfl (by omega)) ?_
  refine .i (sp_loadStr (hlc rfl) agg9 sz9) ?_
  refine .i (sp_sNeq (hlc rfl) (hlc rfl)) ?_
  refine .dn fun a17 g W17 y17 zz17 hk hg hV hR hP => ?_
  obtain ⟨e61, -, -, -, -, -, -, -, -, -, -, -⟩ := hV
  replace e3 := ft hR e3
  replace e2 := ft hR e2
  replace e5 := ft hR e5
  replace D_cn0 := D_cn0.ext hk
  replace D_ci0 := D_ci0.ext hk
  replace D_cn1 := D_cn1.ext hk
  replace D_ci1 := D_ci1.ext hk
  replace e61 := e61.q
  replace own_b3_2 := own_b3_2.ext hk
  replace own_b2_2 := own_b2_2.ext hk
  replace kw := kw.x hk
  clear hR hk hg hP
  refine zn (hK16 _ _ ?_)
  refine zc e61 (fun hc => ?_) (fun hc => ?_)
  ·
   have hfin : V.beq x y = false := beq_false fun h => by subst h; simp at hc
   refine zq fun K18 hK18 => ?_
   refine rg mixed y17 zz17 ?_
   refine .ac ?_
   refine .dn fun a19 g W19 y19 zz19 hk hg hV hR hP => ?_
   obtain ⟨e4, -⟩ := hV
   replace D_cn0 := D_cn0.ext hk
   replace D_ci0 := D_ci0.ext hk
   replace D_cn1 := D_cn1.ext hk
   replace D_ci1 := D_ci1.ext hk
   replace e4 := e4.q
   replace own_b3_2 := own_b3_2.ext hk
   replace own_b2_2 := own_b2_2.ext hk
   replace kw := kw.x hk
   clear hR hk hg hP
   refine zn (hK18 _ _ ?_)
   refine wp_ret ?_
   refine ret1 rfl zz19 e4 ⟨_, rfl, kw, ?_⟩
   rw [hfin]
  have hk1 : x.ns[k] = y.ns[k] := by simpa using hc
  refine wp_skip (hK15 _ _ ?_)
  refine rg mixed y17 zz17 ?_
  refine .mb rfl e5 ?_
  refine .i (sp_add (hlc rfl) Has.cst (i64_in (by omega))) ?_
  refine .al rfl ?_
  refine .dn fun a20 g W20 y20 zz20 hk hg hV hR hP => ?_
  obtain ⟨e5, -, -, -⟩ := hV
  replace e3 := ft hR e3
  replace e2 := ft hR e2
  replace D_cn0 := D_cn0.ext hk
  replace D_ci0 := D_ci0.ext hk
  replace D_cn1 := D_cn1.ext hk
  replace D_ci1 := D_ci1.ext hk
  replace e5 := e5.q
  replace own_b3_2 := own_b3_2.ext hk
  replace own_b2_2 := own_b2_2.ext hk
  replace kw := kw.x hk
  clear hR hk hg hP
  exact tail_nil ⟨hlt, y20, zz20, kw, e2, e3, (e5.trans (congrArg (Value.int .i64) (by simp))), own_b3_2, own_b2_2, D_cn0, D_ci0, D_cn1, D_ci1, fun i h1 h2 hi => by rcases Nat.lt_succ_iff_lt_or_eq.1 hi with h | h; exact hinv i h1 h2 h; subst h; exact hk1⟩
 have hge0 : ¬ k < x.ns.length := by simpa using hc
 have hge : k = x.ns.length := by omega
 have hns : x.ns = y.ns := List.ext_getElem (by omega) fun i h1 h2 => hinv i h1 h2 (by omega)
 refine wp_exit (hK8 _ _ ?_)
 refine zq fun K21 hK21 => ?_
 refine zq fun K22 hK22 => ?_
 refine rg mixed y14 zz14 ?_
 refine .ac ?_
 refine .dn fun a23 g W23 y23 zz23 hk hg hV hR hP => ?_
 obtain ⟨e6, -⟩ := hV
 replace e3 := ft hR e3
 replace e2 := ft hR e2
 replace D_cn0 := D_cn0.ext hk
 replace D_ci0 := D_ci0.ext hk
 replace D_cn1 := D_cn1.ext hk
 replace D_ci1 := D_ci1.ext hk
 replace e6 := e6.q
 replace own_b3_2 := own_b3_2.ext hk
 replace own_b2_2 := own_b2_2.ext hk
 replace kw := kw.x hk
 clear hR hk hg hP
 refine zn (hK22 _ _ ?_)
 refine wp_block ?_
 refine wp_for (x.xs.length) (fun j a W => a.tmps.size = 81 ∧ a.defers = [] ∧ Keeps All w W ∧ sl a 2 = (.pointer (some ⟨b2_2, 0, none⟩)) ∧ sl a 3 = (.pointer (some ⟨b3_2, 0, none⟩)) ∧ sl a 6 = (.int .i64 ((j : Nat))) ∧ Own W b3_2 [(.int .u8 (y.k)), (.int .i64 (y.n)), (.string (y.t)), (.slice cn1a (y.ns.length) cn1c), (.slice ci1a (y.xs.length) ci1c)] 26 ∧ Own W b2_2 [(.int .u8 (x.k)), (.int .i64 (x.n)), (.string (x.t)), (.slice cn0a (x.ns.length) cn0c), (.slice ci0a (x.xs.length) ci0c)] 26 ∧ Rd W (SA w S [b3_2, b2_2]) (strsD (x.ns)) (.slice cn0a (x.ns.length) cn0c) ∧ Rd W (SA w S [b3_2, b2_2]) (valsD (x.xs)) (.slice ci0a (x.xs.length) ci0c) ∧ Rd W (SA w S [b3_2, b2_2]) (strsD (y.ns)) (.slice cn1a (y.ns.length) cn1c) ∧ Rd W (SA w S [b3_2, b2_2]) (valsD (y.xs)) (.slice ci1a (y.xs.length) ci1c) ∧ (∀ i (h1 : i < x.xs.length) (h2 : i < y.xs.length), i < j → x.xs[i] = y.xs[i])) ⟨y23, zz23, kw, e2, e3, (e6.trans (congrArg (Value.int .i64) (rfl))), own_b3_2, own_b2_2, D_cn0, D_ci0, D_cn1, D_ci1, fun i h1 h2 hi => absurd hi (by omega)⟩ ?_
 clear kw e2 e3 e6 own_b3_2 own_b2_2 D_cn0 D_ci0 D_cn1 D_ci1
 rintro j a24 W24 hkj ⟨y24, zz24, kw, e2, e3, e6, own_b3_2, own_b2_2, D_cn0, D_ci0, D_cn1, D_ci1, hinv2⟩
 refine zq fun K25 hK25 => ?_
 refine zq fun K26 hK26 => ?_
 refine rg mixed y24 zz24 ?_
 refine .mb rfl e6 ?_
 refine .i (fo 4 (hbs rfl e2) Tryz.underlying26 rfl sz24 rfl) ?_
 refine .i (lo1 (hlc rfl) own_b2_2 trivial agg24 sz24 rfl) ?_
 refine .i (sp_lenVs Tryz.underlying24 ((hlc rfl).dat D_ci0 sub_all)) ?_
 refine .i (sp_lss (hlc rfl) (hlc rfl)) ?_
 refine .dn fun a27 g W27 y27 zz27 hk hg hV hR hP => ?_
 obtain ⟨e66, -, -, -, -, -⟩ := hV
 replace e3 := ft hR e3
 replace e2 := ft hR e2
 replace e6 := ft hR e6
 replace D_cn0 := D_cn0.ext hk
 replace D_ci0 := D_ci0.ext hk
 replace D_cn1 := D_cn1.ext hk
 replace D_ci1 := D_ci1.ext hk
 replace e66 := e66.q
 replace own_b3_2 := own_b3_2.ext hk
 replace own_b2_2 := own_b2_2.ext hk
 replace kw := kw.x hk
 clear hR hk hg hP
 refine zn (hK26 _ _ ?_)
 refine zc e66 (fun hc => ?_) (fun hc => ?_)
 ·
  have hlt : j < x.xs.length := by simpa using hc
  have hltj := hlt
  have hce := cnt_elem hlt
  have hcq := cnt_eq x
  refine wp_skip (hK25 _ _ ?_)
  refine zq fun K28 hK28 => ?_
  refine wp_block ?_
  refine zq fun K29 hK29 => ?_
  refine rg mixed y27 zz27 ?_
  refine .i (fo 4 (hbs rfl e2) Tryz.underlying26 rfl sz24 rfl) ?_
  refine .i (lo1 (hlc rfl) own_b2_2 trivial agg24 sz24 rfl) ?_
  refine .mb rfl e6 ?_
  refine .rf (sp_indexV (i := j) ((hlc rfl).dat D_ci0 sub_all) (hlc rfl) Tryz.underlying24 sz26 rfl hltj) ?_
  refine .da (sp_loadV (hlc rfl) agg26 sz26) ?_
  refine .i (fo 4 (hbs rfl e3) Tryz.underlying26 rfl sz24 rfl) ?_
  refine .i (lo1 (hlc rfl) own_b3_2 trivial agg24 sz24 rfl) ?_
  refine .mb rfl e6 ?_
  refine .rf (sp_indexV (i := j) ((hlc rfl).dat D_ci1 sub_all) (hlc rfl) Tryz.underlying24 sz26 rfl (by omega)) ?_
  refine .da (sp_loadV (hlc rfl) agg26 sz26) ?_
  refine .i (v := (.bool (V.beq (x.xs[j]'hltj) (y.xs[j]'(by omega))))) (sp_call2 (φ1 := IsD (SA w S [b3_2, b2_2]) (V.d (x.xs[j]'hltj))) (φ2 := IsD (SA w S [b3_2, b2_2]) (V.d (y.xs[j]'(by omega)))) ent14 (hlc rfl) (hlc rfl) (fun g u1 u2 W hk hgk h1 h2 => ih (x.xs[j]'hltj) (y.xs[j]'(by omega)) (by omega) (by first | omega | exact Nat.le_of_ble_eq_true (by kernel_rfl)) W _ _ _ h1 h2)) ?_
  refine .i (sp_not (hlc rfl)) ?_
  refine .dn fun a30 g W30 y30 zz30 hk hg hV hR hP => ?_
  obtain ⟨e80, -, -, -, -, -, -, -, -, -, -, -, -⟩ := hV
  replace e3 := ft hR e3
  replace e2 := ft hR e2
  replace e6 := ft hR e6
  replace D_cn0 := D_cn0.ext hk
  replace D_ci0 := D_ci0.ext hk
  replace D_cn1 := D_cn1.ext hk
  replace D_ci1 := D_ci1.ext hk
  replace e80 := e80.q
  replace own_b3_2 := own_b3_2.ext hk
  replace own_b2_2 := own_b2_2.ext hk
  replace kw := kw.x hk
  clear hR hk hg hP
  refine zn (hK29 _ _ ?_)
  refine zc e80 (fun hc => ?_) (fun hc => ?_)
  ·
   have hfin : V.beq x y = false := beq_false fun h => by subst h; simp [beq_refl] at hc
   refine zq fun K31 hK31 => ?_
   refine rg mixed y30 zz30 ?_
   refine .ac ?_
   refine .dn fun a32 g W32 y32 zz32 hk hg hV hR hP => ?_
   obtain ⟨e4, -⟩ := hV
   replace D_cn0 := D_cn0.ext hk
   replace D_ci0 := D_ci0.ext hk
   replace D_cn1 := D_cn1.ext hk
   replace D_ci1 := D_ci1.ext hk
   replace e4 := e4.q
   replace own_b3_2 := own_b3_2.ext hk
   replace own_b2_2 := own_b2_2.ext hk
   replace kw := kw.x hk
   clear hR hk hg hP
   refine zn (hK31 _ _ ?_)
   refine wp_ret ?_
   refine ret1 rfl zz32 e4 ⟨_, rfl, kw, ?_⟩
   rw [hfin]
  have hk1 : x.xs[j] = y.xs[j] := (beq_iff _ _).1 (by simpa using hc)
  refine wp_skip (hK28 _ _ ?_)
  refine rg mixed y30 zz30 ?_
  refine .mb rfl e6 ?_
  refine .i (sp_add (hlc rfl) Has.cst (i64_in (by omega))) ?_
  refine .al rfl ?_
  refine .dn fun a33 g W33 y33 zz33 hk hg hV hR hP => ?_
  obtain ⟨e6, -, -, -⟩ := hV
  replace e3 := ft hR e3
  replace e2 := ft hR e2
  replace D_cn0 := D_cn0.ext hk
  replace D_ci0 := D_ci0.ext hk
  replace D_cn1 := D_cn1.ext hk
  replace D_ci1 := D_ci1.ext hk
  replace e6 := e6.q
  replace own_b3_2 := own_b3_2.ext hk
  replace own_b2_2 := own_b2_2.ext hk
  replace kw := kw.x hk
  clear hR hk hg hP
  exact tail_nil ⟨hlt, y33, zz33, kw, e2, e3, (e6.trans (congrArg (Value.int .i64) (by simp))), own_b3_2, own_b2_2, D_cn0, D_ci0, D_cn1, D_ci1, fun i h1 h2 hi => by rcases Nat.lt_succ_iff_lt_or_eq.1 hi with h | h; exact hinv2 i h1 h2 h; subst h; exact hk1⟩
 have hge0 : ¬ j < x.xs.length := by simpa using hc
 have hge : j = x.xs.length := by omega
 have hfin : V.beq x y = true := (beq_iff x y).2 (V.ext (by omega) q2 q3 hns (List.ext_getElem (by omega) fun i h1 h2 => hinv2 i h1 h2 (by omega)))
 refine wp_exit (hK21 _ _ ?_)
 refine zq fun K34 hK34 => ?_
 refine rg mixed y27 zz27 ?_
 refine .ac ?_
 refine .dn fun a35 g W35 y35 zz35 hk hg hV hR hP => ?_
 obtain ⟨e4, -⟩ := hV
 replace D_cn0 := D_cn0.ext hk
 replace D_ci0 := D_ci0.ext hk
 replace D_cn1 := D_cn1.ext hk
 replace D_ci1 := D_ci1.ext hk
 replace e4 := e4.q
 replace own_b3_2 := own_b3_2.ext hk
 replace own_b2_2 := own_b2_2.ext hk
 replace kw := kw.x hk
 clear hR hk hg hP
 refine zn (hK34 _ _ ?_)
 refine wp_ret ?_
 refine ret1 rfl zz35 e4 ⟨_, rfl, kw, ?_⟩
 rw [hfin]
set_option maxRecDepth 100000 in
theorem hasPrefix_in (t p : ByteArray) (w : World) : Calls Tryz.prog 113 #[.string t, .string p] w (Ret w fun u _ => u = .bool (hasPre t p)) := by
 refine enter Tryz.func113 rfl Tryz.ntmps113 (lbr rfl) fun a0 y0 zz0 harg => ?_
 have e0 : sl a0 0 = (.string (t)) := harg 0 (lbr rfl)
 have e1 : sl a0 1 = (.string (p)) := harg 1 (lbr rfl)
 have kw := Keeps.refl All w
 clear harg
 refine zq fun K1 hK1 => ?_
 refine rg mixed y0 zz0 ?_
 refine .ac ?_
 refine .dn fun a2 g W2 y2 zz2 hk hg hV hR hP => ?_
 obtain ⟨-, -⟩ := hV
 replace e0 := ft hR e0
 replace e1 := ft hR e1
 replace kw := kw.x hk
 clear hR hk hg hP
 refine zn (hK1 _ _ ?_)
 refine zq fun K3 hK3 => ?_
 refine rg mixed y2 zz2 ?_
 refine .mb rfl e0 ?_
 refine .i (sp_lenS Tryz.underlying9 (hlc rfl)) ?_
 refine .mb rfl e1 ?_
 refine .i (sp_lenS Tryz.underlying9 (hlc rfl)) ?_
 refine .i (sp_geq (hlc rfl) (hlc rfl)) ?_
 refine .i (sp_move (hlc rfl)) ?_
 refine .em rfl (hlc rfl) rfl e0 ?_
 refine .em rfl (hlc rfl) rfl e1 ?_
 refine .e rfl (hlc rfl) (fun hg => sp_lenS Tryz.underlying9 ((hlc rfl).undE hg)) ?_
 refine .e (v := (.string (t.extract 0 p.size))) rfl (hlc rfl) (fun hg => sp_sliceHi (i := p.size) Tryz.underlying9 ((hlc rfl).undE hg) ((hlc rfl).undE hg) rfl (by simp at hg; omega)) ?_
 refine .em rfl (hlc rfl) rfl e1 ?_
 refine .e rfl (hlc rfl) (fun hg => sp_sEql ((hlc rfl).undE hg) ((hlc rfl).undE hg)) ?_
 refine .i (sp_and (hlc rfl) ((hlc rfl).weak fun hq => hq)) ?_
 refine .al rfl ?_
 refine .dn fun a4 g W4 y4 zz4 hk hg hV hR hP => ?_
 obtain ⟨e4, -, -, -, -, -, -, -, -, -, -, -, -, -, -⟩ := hV
 replace e4 := e4.q
 replace kw := kw.x hk
 clear hR hk hg hP
 refine zn (hK3 _ _ ?_)
 refine wp_ret ?_
 refine ret1 rfl zz4 e4 ⟨_, rfl, kw, ?_⟩
 congr 1; simp [hasPre]
set_option maxRecDepth 100000 in
theorem hasPrefix_ok (t p : ByteArray) (w : World) : Calls Tryz.prog 112 #[.string t, .string p] w (Ret w fun u _ => u = .bool (hasPre t p)) := by
 refine enter Tryz.func112 rfl Tryz.ntmps112 (lbr rfl) fun a0 y0 zz0 harg => ?_
 have e0 : sl a0 0 = (.string (t)) := harg 0 (lbr rfl)
 have e1 : sl a0 1 = (.string (p)) := harg 1 (lbr rfl)
 have kw := Keeps.refl All w
 clear harg
 refine zq fun K1 hK1 => ?_
 refine rg mixed y0 zz0 ?_
 refine .ac ?_
 refine .dn fun a2 g W2 y2 zz2 hk hg hV hR hP => ?_
 obtain ⟨-, -⟩ := hV
 replace e0 := ft hR e0
 replace e1 := ft hR e1
 replace kw := kw.x hk
 clear hR hk hg hP
 refine zn (hK1 _ _ ?_)
 refine zq fun K3 hK3 => ?_
 refine rg mixed y2 zz2 ?_
 refine .mb rfl e0 ?_
 refine .mb rfl e1 ?_
 refine .i (v := (.bool (hasPre t p))) (sp_call2 (φ1 := Is (.string (t))) (φ2 := Is (.string (p))) ent113 (hlc rfl) (hlc rfl) (fun g u1 u2 W hk hgk h1 h2 => by have h1 : u1 = _ := h1; subst u1; have h2 : u2 = _ := h2; subst u2; exact hasPrefix_in (t) (p) W)) ?_
 refine .al rfl ?_
 refine .dn fun a4 g W4 y4 zz4 hk hg hV hR hP => ?_
 obtain ⟨e4, -, -, -, -⟩ := hV
 replace e4 := e4.q
 replace kw := kw.x hk
 clear hR hk hg hP
 refine zn (hK3 _ _ ?_)
 refine wp_ret ?_
 refine ret1 rfl zz4 e4 ⟨_, rfl, kw, ?_⟩
 exact rfl
set_option maxRecDepth 100000 in
theorem utfLen_ok (t : ByteArray) (ht : t.size ≤ 1073741824) (w : World) : Calls Tryz.prog 109 #[.string t] w (Ret w fun u _ => ∃ n : Int, u = .tuple #[.int .i64 n, .bool (utfOk t)]) := by
 refine enter Tryz.func109 rfl Tryz.ntmps109 (lbr rfl) fun a0 y0 zz0 harg => ?_
 have e0 : sl a0 0 = (.string (t)) := harg 0 (lbr rfl)
 have kw := Keeps.refl All w
 clear harg
 refine zq fun K1 hK1 => ?_
 refine rg mixed y0 zz0 ?_
 refine .ac ?_
 refine .ac ?_
 refine .dn fun a2 g W2 y2 zz2 hk hg hV hR hP => ?_
 obtain ⟨-, -, -⟩ := hV
 replace e0 := ft hR e0
 replace kw := kw.x hk
 clear hR hk hg hP
 refine zn (hK1 _ _ ?_)
 refine zq fun K3 hK3 => ?_
 refine rg mixed y2 zz2 ?_
 refine .ac ?_
 refine .dn fun a4 g W4 y4 zz4 hk hg hV hR hP => ?_
 obtain ⟨e4, -⟩ := hV
 replace e0 := ft hR e0
 replace e4 := e4.q
 replace kw := kw.x hk
 clear hR hk hg hP
 refine zn (hK3 _ _ ?_)
 refine zq fun K5 hK5 => ?_
 refine zq fun K6 hK6 => ?_
 refine rg mixed y4 zz4 ?_
 refine .mb rfl e0 ?_
 refine .rangeS Tryz.underlying9 (hlc rfl) ?_
 refine .dn fun a7 g W7 y7 zz7 hk hg hV hR hP => ?_
 obtain ⟨⟨b8_7, e8, hb8, own_b8_7⟩, -, -⟩ := hV
 have lo_b8_7 : w.heap.size ≤ b8_7 := Nat.le_trans kw.size (hg.lo _ _ hb8)
 have own_b8_7 : OwnIt W7 b8_7 (t) (0) := own_b8_7
 replace e0 := ft hR e0
 replace e4 := ft hR e4
 replace kw := kw.x hk
 clear hR hk hg hP hb8
 refine zn (hK6 _ _ ?_)
 refine wp_block ?_
 refine wp_for (t.size) (fun k a W => ∃ (p : Nat), ∃ (f : Nat), a.tmps.size = 25 ∧ a.defers = [] ∧ Keeps All w W ∧ sl a 0 = (.string (t)) ∧ sl a 4 = (.int .i64 ((k : Nat))) ∧ sl a 8 = (.pointer (some ⟨b8_7, 0, none⟩)) ∧ OwnIt W b8_7 (t) (p) ∧ (k ≤ p) ∧ (utfOk t = utfFrom t f p) ∧ (t.size ≤ p + f)) ⟨0, t.size, y7, zz7, kw, e0, (e4.trans (congrArg (Value.int .i64) (rfl))), e8, own_b8_7, Nat.le_refl _, rfl, by omega⟩ ?_
 clear kw e0 e4 e8 own_b8_7
 rintro k a8 W8 hkk ⟨p, f, y8, zz8, kw, e0, e4, e8, own_b8_7, hkp, hfu, hfp⟩
 refine zq fun K9 hK9 => ?_
 refine wp_next (b := b8_7) (p := p) (s := t) mixed y8 zz8 e8 own_b8_7 (by decide) (by kernel_rfl) (fun a10 W10 y10 zz10 hk hlt own_b8_7 e9 e10 hr => ?_) (fun a10 W10 y10 zz10 hk hge own_b8_7 e9 e10 hr => ?_)
 ·
  replace e0 := (hr 0 (by decide) (by decide)).trans e0
  replace e4 := (hr 4 (by decide) (by decide)).trans e4
  replace e8 := (hr 8 (by decide) (by decide)).trans e8
  replace kw := keeps_store kw hk lo_b8_7
  clear hr hk
  have hwp := width_pos t p hlt
  obtain ⟨f, rfl⟩ : ∃ f', f = f' + 1 := ⟨f - 1, by omega⟩
  rw [utfFrom, if_pos hlt] at hfu
  refine id (hK9 _ _ ?_)
  refine zq fun K11 hK11 => ?_
  refine wp_cond_true e10 ?_
  refine wp_skip (hK11 _ _ ?_)
  refine wp_block ?_
  refine zq fun K12 hK12 => ?_
  refine rg mixed y10 zz10 ?_
  refine .i (v := (.int .i64 ((p : Nat)))) (sp_extT (hbs rfl e9) rfl) ?_
  refine .i (v := (.int .i32 (((Utf8.decode t p).1 : Nat)))) (sp_extT (hbs rfl e9) rfl) ?_
  refine .al rfl ?_
  refine .al rfl ?_
  refine .dn fun a13 g W13 y13 zz13 hk hg hV hR hP => ?_
  obtain ⟨e6, e5, -, -, -⟩ := hV
  replace e0 := ft hR e0
  replace e4 := ft hR e4
  replace e8 := ft hR e8
  replace e5 := e5.q
  replace e6 := e6.q
  replace own_b8_7 := own_b8_7.ext hk
  replace kw := kw.x hk
  clear hR hk hg hP
  refine zn (hK12 _ _ ?_)
  refine zq fun K14 hK14 => ?_
  refine zq fun K15 hK15 => ?_
  refine rg mixed y13 zz13 ?_
  refine .mb rfl e6 ?_
  refine .i (sp_eql (hlc rfl) Has.cst) ?_
  refine .i (sp_move (hlc rfl)) ?_
  refine .em rfl (hlc rfl) rfl e0 ?_
  refine .em rfl (hlc rfl) rfl e5 ?_
  refine .e (v := (.string (t.extract p t.size))) rfl (hlc rfl) (fun hg => sp_sliceLo (i := p) Tryz.underlying9 ((hlc rfl).undE hg) ((hlc rfl).undE hg) rfl (by omega)) ?_
  refine .e (v := (.bool (hasPre (t.extract p t.size) ⟨#[239, 191, 189]⟩))) rfl (hlc rfl) (fun hg => sp_call2 (φ1 := Is (.string (t.extract p t.size))) (φ2 := Is (.string (⟨#[239, 191, 189]⟩))) ent112 ((hlc rfl).undE hg) Has.cst (fun g u1 u2 W hk hgk h1 h2 => by have h1 : u1 = _ := h1; subst u1; have h2 : u2 = _ := h2; subst u2; exact hasPrefix_ok (t.extract p t.size) (⟨#[239, 191, 189]⟩) W)) ?_
  refine .e rfl (hlc rfl) (fun hg => sp_not ((hlc rfl).undE hg)) ?_
  refine .i (sp_and (hlc rfl) ((hlc rfl).weak fun hq => hq)) ?_
  refine .dn fun a16 g W16 y16 zz16 hk hg hV hR hP => ?_
  obtain ⟨e21, -, -, -, -, -, -, -, -, -⟩ := hV
  replace e0 := ft hR e0
  replace e4 := ft hR e4
  replace e8 := ft hR e8
  replace e21 := e21.q
  replace own_b8_7 := own_b8_7.ext hk
  replace kw := kw.x hk
  clear hR hk hg hP
  refine zn (hK15 _ _ ?_)
  refine zc e21 (fun hc => ?_) (fun hc => ?_)
  ·
   simp at hc
   have hfin : utfOk t = false := by rw [hfu, if_pos ⟨by omega, hc.2⟩]
   refine zq fun K17 hK17 => ?_
   refine rg mixed y16 zz16 ?_
   refine .ac ?_
   refine .ac ?_
   refine .dn fun a18 g W18 y18 zz18 hk hg hV hR hP => ?_
   obtain ⟨e3, e2, -⟩ := hV
   replace e2 := e2.q
   replace e3 := e3.q
   replace own_b8_7 := own_b8_7.ext hk
   replace kw := kw.x hk
   clear hR hk hg hP
   refine zn (hK17 _ _ ?_)
   refine wp_ret ?_
   refine ret2 rfl zz18 e2 e3 ⟨_, rfl, kw, ?_⟩
   rw [hfin]
   exact ⟨_, rfl⟩
  simp at hc
  rw [if_neg (fun h => by have h2 := hc (by omega); have h3 := h.2; unfold badRune at h3; rw [h2] at h3; cases h3)] at hfu
  refine wp_skip (hK14 _ _ ?_)
  refine rg mixed y16 zz16 ?_
  refine .mb rfl e4 ?_
  refine .i (sp_add (hlc rfl) Has.cst (i64_in (by omega))) ?_
  refine .al rfl ?_
  refine .dn fun a19 g W19 y19 zz19 hk hg hV hR hP => ?_
  obtain ⟨e4, -, -, -⟩ := hV
  replace e0 := ft hR e0
  replace e8 := ft hR e8
  replace e4 := e4.q
  replace own_b8_7 := own_b8_7.ext hk
  replace kw := kw.x hk
  clear hR hk hg hP
  exact tail_nil ⟨by omega, _, f, y19, zz19, kw, e0, (e4.trans (congrArg (Value.int .i64) (by simp))), e8, own_b8_7, by omega, hfu, by omega⟩
 ·
  replace e0 := (hr 0 (by decide) (by decide)).trans e0
  replace e4 := (hr 4 (by decide) (by decide)).trans e4
  replace e8 := (hr 8 (by decide) (by decide)).trans e8
  replace kw := keeps_store kw hk lo_b8_7
  clear hr hk
  have hfin : utfOk t = true := hfu.trans (utfFrom_end hge)
  refine id (hK9 _ _ ?_)
  refine zq fun K20 hK20 => ?_
  refine wp_cond_false e10 ?_
  refine wp_exit (hK5 _ _ ?_)
  refine zq fun K21 hK21 => ?_
  refine rg mixed y10 zz10 ?_
  refine .mb rfl e4 ?_
  refine .al rfl ?_
  refine .ac ?_
  refine .dn fun a22 g W22 y22 zz22 hk hg hV hR hP => ?_
  obtain ⟨e3, e2, -, -⟩ := hV
  replace e2 := e2.q
  replace e3 := e3.q
  replace own_b8_7 := own_b8_7.ext hk
  replace kw := kw.x hk
  clear hR hk hg hP
  refine zn (hK21 _ _ ?_)
  refine wp_ret ?_
  refine ret2 rfl zz22 e2 e3 ⟨_, rfl, kw, ?_⟩
  rw [hfin]
  exact ⟨_, rfl⟩
set_option maxRecDepth 100000 in
theorem valid_ok (t : ByteArray) (ht : t.size ≤ 1073741824) (w : World) : Calls Tryz.prog 102 #[.string t] w (Ret w fun u _ => u = .bool (utfOk t)) := by
 refine enter Tryz.func102 rfl Tryz.ntmps102 (lbr rfl) fun a0 y0 zz0 harg => ?_
 have e0 : sl a0 0 = (.string (t)) := harg 0 (lbr rfl)
 have kw := Keeps.refl All w
 clear harg
 refine zq fun K1 hK1 => ?_
 refine rg mixed y0 zz0 ?_
 refine .ac ?_
 refine .dn fun a2 g W2 y2 zz2 hk hg hV hR hP => ?_
 obtain ⟨-, -⟩ := hV
 replace e0 := ft hR e0
 replace kw := kw.x hk
 clear hR hk hg hP
 refine zn (hK1 _ _ ?_)
 refine zq fun K3 hK3 => ?_
 refine rg mixed y2 zz2 ?_
 refine .mb rfl e0 ?_
 refine .op (φ := IsT (Any) (Is (.bool (utfOk t)))) (st_t st_any (st_is _)) (sp_call1 (φ1 := Is (.string (t))) ent109 (hlc rfl) (fun g u1 W hk hgk h1 => by have h1 : u1 = _ := h1; subst u1; exact (utfLen_ok (t) (by omega) W).mono (fun _ _ ⟨v, h1, h2, n, h3⟩ => ⟨v, h1, h2, _, _, h3, trivial, rfl⟩))) ?_
 refine .op (φ := IsT (Any) (Is (.bool (utfOk t)))) (st_t st_any (st_is _)) (sp_move (hlc rfl)) ?_
 refine .op (φ := Any) st_any (sp_ext2 (hlc rfl) rfl) ?_
 refine .i (v := (.bool (utfOk t))) (sp_ext2' (hlc rfl) rfl) ?_
 refine .op (φ := Any) st_any (sp_assign (hlc rfl)) ?_
 refine .al rfl ?_
 refine .dn fun a4 g W4 y4 zz4 hk hg hV hR hP => ?_
 obtain ⟨e4, -, -, -, -, -, -, -⟩ := hV
 replace e4 := e4.q
 replace kw := kw.x hk
 clear hR hk hg hP
 refine zn (hK3 _ _ ?_)
 refine zq fun K5 hK5 => ?_
 refine rg mixed y4 zz4 ?_
 refine .mb rfl e4 ?_
 refine .al rfl ?_
 refine .dn fun a6 g W6 y6 zz6 hk hg hV hR hP => ?_
 obtain ⟨e2, -, -⟩ := hV
 replace e2 := e2.q
 replace kw := kw.x hk
 clear hR hk hg hP
 refine zn (hK5 _ _ ?_)
 refine wp_ret ?_
 refine ret1 rfl zz6 e2 ⟨_, rfl, kw, ?_⟩
 exact rfl
set_option maxRecDepth 100000 in
theorem written_ok (t : ByteArray) (w : World) : Calls Tryz.prog 84 #[.string t] w (Ret w fun u _ => u = .bool (wr t)) := by
 refine enter Tryz.func84 rfl Tryz.ntmps84 (lbr rfl) fun a0 y0 zz0 harg => ?_
 have e0 : sl a0 0 = (.string (t)) := harg 0 (lbr rfl)
 have kw := Keeps.refl All w
 clear harg
 refine zq fun K1 hK1 => ?_
 refine rg mixed y0 zz0 ?_
 refine .ac ?_
 refine .dn fun a2 g W2 y2 zz2 hk hg hV hR hP => ?_
 obtain ⟨-, -⟩ := hV
 replace e0 := ft hR e0
 replace kw := kw.x hk
 clear hR hk hg hP
 refine zn (hK1 _ _ ?_)
 refine zq fun K3 hK3 => ?_
 refine rg mixed y2 zz2 ?_
 refine .mb rfl e0 ?_
 refine .i (sp_lenS Tryz.underlying9 (hlc rfl)) ?_
 refine .i (sp_leq (hlc rfl) Has.cst) ?_
 refine .i (sp_move (hlc rfl)) ?_
 refine .em rfl (hlc rfl) rfl e0 ?_
 refine .e (v := (.bool (utfOk t))) rfl (hlc rfl) (fun hg => sp_call1 (φ1 := Is (.string (t))) ent102 ((hlc rfl).undE hg) (fun g u1 W hk hgk h1 => by have h1 : u1 = _ := h1; subst u1; exact valid_ok (t) (by first | omega | (simp at hg; omega)) W)) ?_
 refine .i (sp_and (hlc rfl) ((hlc rfl).weak fun hq => hq)) ?_
 refine .al rfl ?_
 refine .dn fun a4 g W4 y4 zz4 hk hg hV hR hP => ?_
 obtain ⟨e2, -, -, -, -, -, -, -, -⟩ := hV
 replace e2 := e2.q
 replace kw := kw.x hk
 clear hR hk hg hP
 refine zn (hK3 _ _ ?_)
 refine wp_ret ?_
 refine ret1 rfl zz4 e2 ⟨_, rfl, kw, ?_⟩
 congr 1; unfold wr; congr 1; exact decide_eq_decide.2 (by omega)
set_option maxRecDepth 100000 in
theorem proper_ok (x : V) (w : World) (S : BSet) (v : Value) (hv : Rd w S x.d v) : Calls Tryz.prog 71 #[v] w (Ret w fun u _ => u = .bool (properB x)) := by
 have hp := properG_eq x
 have hmn : x.ns.length ≤ maxLen := by obtain ⟨_, _, _, _, _, _, h, _⟩ := rdV_out hv; exact rd_lenS h
 simp only [maxLen] at hmn
 obtain ⟨cn0a, cn0c, ci0a, ci0c, ev, ht0, D_cn0, D_ci0⟩ := rdV_out (rd_arg hv)
 subst ev
 refine enter Tryz.func71 rfl Tryz.ntmps71 (lbr rfl) fun a0 y0 zz0 harg => ?_
 have e0 : sl a0 0 = (.agg #[(.int .u8 (x.k)), (.int .i64 (x.n)), (.string (x.t)), (.slice cn0a (x.ns.length) cn0c), (.slice ci0a (x.xs.length) ci0c)]) := harg 0 (lbr rfl)
 have kw := Keeps.refl All w
 clear harg
 refine zq fun K1 hK1 => ?_
 refine rg mixed y0 zz0 ?_
 refine .boxOp (v := (.agg #[(.int .u8 (x.k)), (.int .i64 (x.n)), (.string (x.t)), (.slice cn0a (x.ns.length) cn0c), (.slice ci0a (x.xs.length) ci0c)])) (hbs rfl e0) ?_
 refine .ac ?_
 refine .dn fun a2 g W2 y2 zz2 hk hg hV hR hP => ?_
 obtain ⟨-, ⟨b1_2, e1, hb1, own_b1_2⟩, -⟩ := hV
 have lo_b1_2 : w.heap.size ≤ b1_2 := Nat.le_trans kw.size (hg.lo _ _ hb1)
 have own_b1_2 : Own W2 b1_2 [(.int .u8 (x.k)), (.int .i64 (x.n)), (.string (x.t)), (.slice cn0a (x.ns.length) cn0c), (.slice ci0a (x.xs.length) ci0c)] 26 := own_b1_2
 replace D_cn0 := sa_more D_cn0 hk [b1_2] (in_cons (hg.lo _ _ hb1) in_nil)
 replace D_ci0 := sa_more D_ci0 hk [b1_2] (in_cons (hg.lo _ _ hb1) in_nil)
 replace kw := kw.x hk
 clear hR hk hg hP hb1
 refine zn (hK1 _ _ ?_)
 refine zq fun K3 hK3 => ?_
 refine zq fun K4 hK4 => ?_
 refine rg mixed y2 zz2 ?_
 refine .i (fo 0 (hbs rfl e1) Tryz.underlying26 rfl sz5 rfl) ?_
 refine .i (lo1 (hlc rfl) own_b1_2 trivial agg5 sz5 rfl) ?_
 refine .i (sp_neq (hlc rfl) Has.cst) ?_
 refine .i (sp_move (hlc rfl)) ?_
 refine .e rfl (hlc rfl) (fun hg => fo 0 (hbs rfl e1) Tryz.underlying26 rfl sz5 rfl) ?_
 refine .e rfl (hlc rfl) (fun hg => lo1 ((hlc rfl).undE hg) own_b1_2 trivial agg5 sz5 rfl) ?_
 refine .e rfl (hlc rfl) (fun hg => sp_neq ((hlc rfl).undE hg) Has.cst) ?_
 refine .i (sp_and (hlc rfl) ((hlc rfl).weak fun hq => hq)) ?_
 refine .i (sp_move (hlc rfl)) ?_
 refine .e rfl (hlc rfl) (fun hg => fo 1 (hbs rfl e1) Tryz.underlying26 rfl sz2 rfl) ?_
 refine .e rfl (hlc rfl) (fun hg => lo1 ((hlc rfl).undE hg) own_b1_2 trivial agg2 sz2 rfl) ?_
 refine .e rfl (hlc rfl) (fun hg => sp_neq ((hlc rfl).undE hg) Has.cst) ?_
 refine .i (sp_and (hlc rfl) ((hlc rfl).weak fun hq => hq)) ?_
 refine .i (sp_move (hlc rfl)) ?_
 refine .e rfl (hlc rfl) (fun hg => fo 0 (hbs rfl e1) Tryz.underlying26 rfl sz5 rfl) ?_
 refine .e rfl (hlc rfl) (fun hg => lo1 ((hlc rfl).undE hg) own_b1_2 trivial agg5 sz5 rfl) ?_
 refine .e rfl (hlc rfl) (fun hg => sp_neq ((hlc rfl).undE hg) Has.cst) ?_
 refine .e rfl (hlc rfl) (fun hg => sp_move ((hlc rfl).undE hg)) ?_
 refine .opEE (t := 22) (x := (x.k : Int) != (3 : Int)) (p := ((((x.k : Int) != (1 : Int)) && ((x.k : Int) != (2 : Int))) && ((x.n : Int) != (0 : Int))) = false) (φ := Is (.pointer (some ⟨b1_2, 2, none⟩))) rfl (hlc rfl) (st_is _) (fun hg => sp_fieldO (hbs rfl e1) Tryz.underlying26 rfl sz9 rfl) ?_
 refine .opEE (t := 22) (x := (x.k : Int) != (3 : Int)) (p := ((((x.k : Int) != (1 : Int)) && ((x.k : Int) != (2 : Int))) && ((x.n : Int) != (0 : Int))) = false) (φ := Is (.string (x.t))) rfl (hlc rfl) (st_is _) (fun hg => sp_loadO (v := (.string (x.t))) ((hlc rfl).undE hg) own_b1_2 trivial agg9 sz9 (lbr rfl) (fun h => by first | rfl | cases h) rfl) ?_
 refine .opEE (t := 22) (x := (x.k : Int) != (3 : Int)) (p := ((((x.k : Int) != (1 : Int)) && ((x.k : Int) != (2 : Int))) && ((x.n : Int) != (0 : Int))) = false) (φ := Is (.bool (!decide (x.t = (⟨#[]⟩ : ByteArray))))) rfl (hlc rfl) (st_is _) (fun hg => sp_sNeq ((hlc rfl).undE hg) Has.cst) ?_
 refine .e rfl (hlc rfl) (fun hg => sp_and ((hlc rfl).undE hg) ((hlc rfl).weak fun hq => ⟨hg, hq⟩)) ?_
 refine .i (sp_or (hlc rfl) ((hlc rfl).weak fun hq => hq)) ?_
 refine .dn fun a5 g W5 y5 zz5 hk hg hV hR hP => ?_
 obtain ⟨e27, -, -, -, -, -, -, -, -, -, -, -, -, -, -, -, -, -, -, -, -, -, -, -⟩ := hV
 replace e1 := ft hR e1
 replace D_cn0 := D_cn0.ext hk
 replace D_ci0 := D_ci0.ext hk
 replace e27 := e27.q
 replace own_b1_2 := own_b1_2.ext hk
 replace kw := kw.x hk
 clear hR hk hg hP
 refine zn (hK4 _ _ ?_)
 refine zc e27 (fun hc => ?_) (fun hc => ?_)
 ·
  rw [hc, cond_true] at hp
  refine zq fun K6 hK6 => ?_
  refine rg mixed y5 zz5 ?_
  refine .ac ?_
  refine .dn fun a7 g W7 y7 zz7 hk hg hV hR hP => ?_
  obtain ⟨e2, -⟩ := hV
  replace D_cn0 := D_cn0.ext hk
  replace D_ci0 := D_ci0.ext hk
  replace e2 := e2.q
  replace own_b1_2 := own_b1_2.ext hk
  replace kw := kw.x hk
  clear hR hk hg hP
  refine zn (hK6 _ _ ?_)
  refine wp_ret ?_
  refine ret1 rfl zz7 e2 ⟨_, rfl, kw, ?_⟩
  rw [hp]
 rw [hc, cond_false] at hp
 refine wp_skip (hK3 _ _ ?_)
 refine zq fun K8 hK8 => ?_
 refine zq fun K9 hK9 => ?_
 refine rg mixed y5 zz5 ?_
 refine .i (fo 0 (hbs rfl e1) Tryz.underlying26 rfl sz5 rfl) ?_
 refine .i (lo1 (hlc rfl) own_b1_2 trivial agg5 sz5 rfl) ?_
 refine .i (sp_neq (hlc rfl) Has.cst) ?_
 refine .i (sp_move (hlc rfl)) ?_
 refine .e rfl (hlc rfl) (fun hg => fo 3 (hbs rfl e1) Tryz.underlying26 rfl sz23 rfl) ?_
 refine .e rfl (hlc rfl) (fun hg => lo1 ((hlc rfl).undE hg) own_b1_2 trivial agg23 sz23 rfl) ?_
 refine .e rfl (hlc rfl) (fun hg => sp_lenSs Tryz.underlying23 (((hlc rfl).undE hg).dat D_cn0 sub_all)) ?_
 refine .e rfl (hlc rfl) (fun hg => sp_gtr ((hlc rfl).undE hg) Has.cst) ?_
 refine .i (sp_and (hlc rfl) ((hlc rfl).weak fun hq => hq)) ?_
 refine .i (sp_move (hlc rfl)) ?_
 refine .e rfl (hlc rfl) (fun hg => fo 0 (hbs rfl e1) Tryz.underlying26 rfl sz5 rfl) ?_
 refine .e rfl (hlc rfl) (fun hg => lo1 ((hlc rfl).undE hg) own_b1_2 trivial agg5 sz5 rfl) ?_
 refine .e rfl (hlc rfl) (fun hg => sp_neq ((hlc rfl).undE hg) Has.cst) ?_
 refine .e rfl (hlc rfl) (fun hg => sp_move ((hlc rfl).undE hg)) ?_
 refine .opEE (t := 41) (x := (x.k : Int) != (5 : Int)) (p := (((x.k : Int) != (5 : Int)) && (decide ((0 : Int) < (x.ns.length : Int)))) = false) (φ := Is (.pointer (some ⟨b1_2, 0, none⟩))) rfl (hlc rfl) (st_is _) (fun hg => sp_fieldO (hbs rfl e1) Tryz.underlying26 rfl sz5 rfl) ?_
 refine .opEE (t := 41) (x := (x.k : Int) != (5 : Int)) (p := (((x.k : Int) != (5 : Int)) && (decide ((0 : Int) < (x.ns.length : Int)))) = false) (φ := Is (.int .u8 (x.k))) rfl (hlc rfl) (st_is _) (fun hg => sp_loadO (v := (.int .u8 (x.k))) ((hlc rfl).undE hg) own_b1_2 trivial agg5 sz5 (lbr rfl) (fun h => by first | rfl | cases h) rfl) ?_
 refine .opEE (t := 41) (x := (x.k : Int) != (5 : Int)) (p := (((x.k : Int) != (5 : Int)) && (decide ((0 : Int) < (x.ns.length : Int)))) = false) (φ := Is (.bool ((x.k : Int) != (4 : Int)))) rfl (hlc rfl) (st_is _) (fun hg => sp_neq ((hlc rfl).undE hg) Has.cst) ?_
 refine .e rfl (hlc rfl) (fun hg => sp_and ((hlc rfl).undE hg) ((hlc rfl).weak fun hq => ⟨hg, hq⟩)) ?_
 refine .e rfl (hlc rfl) (fun hg => sp_move ((hlc rfl).undE hg)) ?_
 refine .opEE (t := 46) (x := ((x.k : Int) != (5 : Int)) && ((x.k : Int) != (4 : Int))) (p := (((x.k : Int) != (5 : Int)) && (decide ((0 : Int) < (x.ns.length : Int)))) = false) (φ := Is (.pointer (some ⟨b1_2, 4, none⟩))) rfl (hlc rfl) (st_is _) (fun hg => sp_fieldO (hbs rfl e1) Tryz.underlying26 rfl sz24 rfl) ?_
 refine .opEE (t := 46) (x := ((x.k : Int) != (5 : Int)) && ((x.k : Int) != (4 : Int))) (p := (((x.k : Int) != (5 : Int)) && (decide ((0 : Int) < (x.ns.length : Int)))) = false) (φ := Is (.slice ci0a (x.xs.length) ci0c)) rfl (hlc rfl) (st_is _) (fun hg => sp_loadO (v := (.slice ci0a (x.xs.length) ci0c)) ((hlc rfl).undE hg) own_b1_2 trivial agg24 sz24 (lbr rfl) (fun h => by first | rfl | cases h) rfl) ?_
 refine .opEE (t := 46) (x := ((x.k : Int) != (5 : Int)) && ((x.k : Int) != (4 : Int))) (p := (((x.k : Int) != (5 : Int)) && (decide ((0 : Int) < (x.ns.length : Int)))) = false) (φ := Is (.int .i64 (x.xs.length))) rfl (hlc rfl) (st_is _) (fun hg => sp_lenVs Tryz.underlying24 (((hlc rfl).undE hg).dat D_ci0 sub_all)) ?_
 refine .opEE (t := 46) (x := ((x.k : Int) != (5 : Int)) && ((x.k : Int) != (4 : Int))) (p := (((x.k : Int) != (5 : Int)) && (decide ((0 : Int) < (x.ns.length : Int)))) = false) (φ := Is (.bool (decide ((0 : Int) < (x.xs.length : Int))))) rfl (hlc rfl) (st_is _) (fun hg => sp_gtr ((hlc rfl).undE hg) Has.cst) ?_
 refine .e rfl (hlc rfl) (fun hg => sp_and ((hlc rfl).undE hg) ((hlc rfl).weak fun hq => ⟨hg, hq⟩)) ?_
 refine .i (sp_or (hlc rfl) ((hlc rfl).weak fun hq => hq)) ?_
 refine .dn fun a10 g W10 y10 zz10 hk hg hV hR hP => ?_
 obtain ⟨e52, -, -, -, -, -, -, -, -, -, -, -, -, -, -, -, -, -, -, -, -, -, -, -, -, -⟩ := hV
 replace e1 := ft hR e1
 replace D_cn0 := D_cn0.ext hk
 replace D_ci0 := D_ci0.ext hk
 replace e52 := e52.q
 replace own_b1_2 := own_b1_2.ext hk
 replace kw := kw.x hk
 clear hR hk hg hP
 refine zn (hK9 _ _ ?_)
 refine zc e52 (fun hc => ?_) (fun hc => ?_)
 ·
  rw [hc, cond_true] at hp
  refine zq fun K11 hK11 => ?_
  refine rg mixed y10 zz10 ?_
  refine .ac ?_
  refine .dn fun a12 g W12 y12 zz12 hk hg hV hR hP => ?_
  obtain ⟨e2, -⟩ := hV
  replace D_cn0 := D_cn0.ext hk
  replace D_ci0 := D_ci0.ext hk
  replace e2 := e2.q
  replace own_b1_2 := own_b1_2.ext hk
  replace kw := kw.x hk
  clear hR hk hg hP
  refine zn (hK11 _ _ ?_)
  refine wp_ret ?_
  refine ret1 rfl zz12 e2 ⟨_, rfl, kw, ?_⟩
  rw [hp]
 rw [hc, cond_false] at hp
 refine wp_skip (hK8 _ _ ?_)
 refine zq fun K13 hK13 => ?_
 refine zq fun K14 hK14 => ?_
 refine rg mixed y10 zz10 ?_
 refine .i (fo 0 (hbs rfl e1) Tryz.underlying26 rfl sz5 rfl) ?_
 refine .i (lo1 (hlc rfl) own_b1_2 trivial agg5 sz5 rfl) ?_
 refine .dn fun a15 g W15 y15 zz15 hk hg hV hR hP => ?_
 obtain ⟨e54, -, -⟩ := hV
 replace e1 := ft hR e1
 replace D_cn0 := D_cn0.ext hk
 replace D_ci0 := D_ci0.ext hk
 replace e54 := e54.q
 replace own_b1_2 := own_b1_2.ext hk
 replace kw := kw.x hk
 clear hR hk hg hP
 refine zn (hK14 _ _ ?_)
 refine wp_block ?_
 refine zq fun K16 hK16 => ?_
 refine rg mixed y15 zz15 ?_
 refine .i (sp_eql (hbs rfl e54) Has.cst) ?_
 refine .al rfl ?_
 refine .dn fun a17 g W17 y17 zz17 hk hg hV hR hP => ?_
 obtain ⟨e55, -, -⟩ := hV
 replace e1 := ft hR e1
 replace e54 := ft hR e54
 replace D_cn0 := D_cn0.ext hk
 replace D_ci0 := D_ci0.ext hk
 replace e55 := e55.q
 replace own_b1_2 := own_b1_2.ext hk
 replace kw := kw.x hk
 clear hR hk hg hP
 refine zn (hK16 _ _ ?_)
 refine zc e55 (fun hc => ?_) (fun hc => ?_)
 ·
  rw [hc, cond_true] at hp
  refine zq fun K18 hK18 => ?_
  refine rg mixed y17 zz17 ?_
  refine .i (fo 1 (hbs rfl e1) Tryz.underlying26 rfl sz2 rfl) ?_
  refine .i (lo1 (hlc rfl) own_b1_2 trivial agg2 sz2 rfl) ?_
  refine .i (sp_eql (hlc rfl) Has.cst) ?_
  refine .i (sp_move (hlc rfl)) ?_
  refine .e rfl (hlc rfl) (fun hg => fo 1 (hbs rfl e1) Tryz.underlying26 rfl sz2 rfl) ?_
  refine .e rfl (hlc rfl) (fun hg => lo1 ((hlc rfl).undE hg) own_b1_2 trivial agg2 sz2 rfl) ?_
  refine .e rfl (hlc rfl) (fun hg => sp_eql ((hlc rfl).undE hg) Has.cst) ?_
  refine .i (sp_or (hlc rfl) ((hlc rfl).weak fun hq => hq)) ?_
  refine .al rfl ?_
  refine .dn fun a19 g W19 y19 zz19 hk hg hV hR hP => ?_
  obtain ⟨e2, -, -, -, -, -, -, -, -, -⟩ := hV
  replace D_cn0 := D_cn0.ext hk
  replace D_ci0 := D_ci0.ext hk
  replace e2 := e2.q
  replace own_b1_2 := own_b1_2.ext hk
  replace kw := kw.x hk
  clear hR hk hg hP
  refine zn (hK18 _ _ ?_)
  refine wp_ret ?_
  refine ret1 rfl zz19 e2 ⟨_, rfl, kw, ?_⟩
  rw [hp]
 rw [hc, cond_false] at hp
 refine zq fun K20 hK20 => ?_
 refine zq fun K21 hK21 => ?_
 refine rg mixed y17 zz17 ?_
 refine .i (sp_eql (hbs rfl e54) Has.cst) ?_
 refine .al rfl ?_
 refine .dn fun a22 g W22 y22 zz22 hk hg hV hR hP => ?_
 obtain ⟨e65, -, -⟩ := hV
 replace e1 := ft hR e1
 replace e54 := ft hR e54
 replace D_cn0 := D_cn0.ext hk
 replace D_ci0 := D_ci0.ext hk
 replace e65 := e65.q
 replace own_b1_2 := own_b1_2.ext hk
 replace kw := kw.x hk
 clear hR hk hg hP
 refine zn (hK21 _ _ ?_)
 refine zc e65 (fun hc => ?_) (fun hc => ?_)
 ·
  rw [hc, cond_true] at hp
  have hc3 := hc
  refine wp_skip (hK20 _ _ ?_)
  refine zc e65 (fun hc => ?_) (fun hc => ?_)
  ·
   refine zq fun K23 hK23 => ?_
   refine rg mixed y22 zz22 ?_
   refine .ac ?_
   refine .dn fun a24 g W24 y24 zz24 hk hg hV hR hP => ?_
   obtain ⟨e2, -⟩ := hV
   replace D_cn0 := D_cn0.ext hk
   replace D_ci0 := D_ci0.ext hk
   replace e2 := e2.q
   replace own_b1_2 := own_b1_2.ext hk
   replace kw := kw.x hk
   clear hR hk hg hP
   refine zn (hK23 _ _ ?_)
   refine wp_ret ?_
   refine ret1 rfl zz24 e2 ⟨_, rfl, kw, ?_⟩
   rw [hp]
  rw [hc3] at hc; cases hc
 rw [hc, cond_false] at hp
 refine rg mixed y22 zz22 ?_
 refine .i (sp_eql (hbs rfl e54) Has.cst) ?_
 refine .al rfl ?_
 refine .dn fun a25 g W25 y25 zz25 hk hg hV hR hP => ?_
 obtain ⟨e65, -, -⟩ := hV
 replace e1 := ft hR e1
 replace e54 := ft hR e54
 replace D_cn0 := D_cn0.ext hk
 replace D_ci0 := D_ci0.ext hk
 replace e65 := e65.q
 replace own_b1_2 := own_b1_2.ext hk
 replace kw := kw.x hk
 clear hR hk hg hP
 refine zn (hK20 _ _ ?_)
 refine zc e65 (fun hc => ?_) (fun hc => ?_)
 ·
  rw [hc, cond_true] at hp
  refine zq fun K26 hK26 => ?_
  refine rg mixed y25 zz25 ?_
  refine .ac ?_
  refine .dn fun a27 g W27 y27 zz27 hk hg hV hR hP => ?_
  obtain ⟨e2, -⟩ := hV
  replace D_cn0 := D_cn0.ext hk
  replace D_ci0 := D_ci0.ext hk
  replace e2 := e2.q
  replace own_b1_2 := own_b1_2.ext hk
  replace kw := kw.x hk
  clear hR hk hg hP
  refine zn (hK26 _ _ ?_)
  refine wp_ret ?_
  refine ret1 rfl zz27 e2 ⟨_, rfl, kw, ?_⟩
  rw [hp]
 rw [hc, cond_false] at hp
 refine zq fun K28 hK28 => ?_
 refine rg mixed y25 zz25 ?_
 refine .i (sp_eql (hbs rfl e54) Has.cst) ?_
 refine .al rfl ?_
 refine .dn fun a29 g W29 y29 zz29 hk hg hV hR hP => ?_
 obtain ⟨e68, -, -⟩ := hV
 replace e1 := ft hR e1
 replace e54 := ft hR e54
 replace D_cn0 := D_cn0.ext hk
 replace D_ci0 := D_ci0.ext hk
 replace e68 := e68.q
 replace own_b1_2 := own_b1_2.ext hk
 replace kw := kw.x hk
 clear hR hk hg hP
 refine zn (hK28 _ _ ?_)
 refine zc e68 (fun hc => ?_) (fun hc => ?_)
 ·
  rw [hc, cond_true] at hp
  refine zq fun K30 hK30 => ?_
  refine rg mixed y29 zz29 ?_
  refine .i (fo 2 (hbs rfl e1) Tryz.underlying26 rfl sz9 rfl) ?_
  refine .i (lo1 (hlc rfl) own_b1_2 trivial agg9 sz9 rfl) ?_
  refine .i (v := (.bool (wr x.t))) (sp_call1 (φ1 := Is (.string (x.t))) ent84 (hlc rfl) (fun g u1 W hk hgk h1 => by have h1 : u1 = _ := h1; subst u1; exact written_ok (x.t) W)) ?_
  refine .al rfl ?_
  refine .dn fun a31 g W31 y31 zz31 hk hg hV hR hP => ?_
  obtain ⟨e2, -, -, -, -⟩ := hV
  replace D_cn0 := D_cn0.ext hk
  replace D_ci0 := D_ci0.ext hk
  replace e2 := e2.q
  replace own_b1_2 := own_b1_2.ext hk
  replace kw := kw.x hk
  clear hR hk hg hP
  refine zn (hK30 _ _ ?_)
  refine wp_ret ?_
  refine ret1 rfl zz31 e2 ⟨_, rfl, kw, ?_⟩
  rw [hp]
 rw [hc, cond_false] at hp
 refine zq fun K32 hK32 => ?_
 refine rg mixed y29 zz29 ?_
 refine .i (sp_eql (hbs rfl e54) Has.cst) ?_
 refine .al rfl ?_
 refine .dn fun a33 g W33 y33 zz33 hk hg hV hR hP => ?_
 obtain ⟨e73, -, -⟩ := hV
 replace e1 := ft hR e1
 replace D_cn0 := D_cn0.ext hk
 replace D_ci0 := D_ci0.ext hk
 replace e73 := e73.q
 replace own_b1_2 := own_b1_2.ext hk
 replace kw := kw.x hk
 clear hR hk hg hP
 refine zn (hK32 _ _ ?_)
 refine zc e73 (fun hc => ?_) (fun hc => ?_)
 ·
  rw [hc, cond_true] at hp
  refine zq fun K34 hK34 => ?_
  refine zq fun K35 hK35 => ?_
  refine rg mixed y33 zz33 ?_
  refine .i (fo 3 (hbs rfl e1) Tryz.underlying26 rfl sz23 rfl) ?_
  refine .i (lo1 (hlc rfl) own_b1_2 trivial agg23 sz23 rfl) ?_
  refine .i (sp_lenSs Tryz.underlying23 ((hlc rfl).dat D_cn0 sub_all)) ?_
  refine .i (fo 4 (hbs rfl e1) Tryz.underlying26 rfl sz24 rfl) ?_
  refine .i (lo1 (hlc rfl) own_b1_2 trivial agg24 sz24 rfl) ?_
  refine .i (sp_lenVs Tryz.underlying24 ((hlc rfl).dat D_ci0 sub_all)) ?_
  refine .i (sp_neq (hlc rfl) (hlc rfl)) ?_
  refine .i (sp_move (hlc rfl)) ?_
  refine .e rfl (hlc rfl) (fun hg => fo 3 (hbs rfl e1) Tryz.underlying26 rfl sz23 rfl) ?_
  refine .e rfl (hlc rfl) (fun hg => lo1 ((hlc rfl).undE hg) own_b1_2 trivial agg23 sz23 rfl) ?_
  refine .e (v := (.bool (asc x.ns))) rfl (hlc rfl) (fun hg => sp_call1 (φ1 := IsD (SA w S [b1_2]) (strsD (x.ns))) ent85 (((hlc rfl).undE hg).dat D_cn0 sub_all) (fun g u1 W hk hgk h1 => ascending_ok (x.ns) W _ _ h1)) ?_
  refine .e rfl (hlc rfl) (fun hg => sp_not ((hlc rfl).undE hg)) ?_
  refine .i (sp_or (hlc rfl) ((hlc rfl).weak fun hq => hq)) ?_
  refine .dn fun a36 g W36 y36 zz36 hk hg hV hR hP => ?_
  obtain ⟨e87, -, -, -, -, -, -, -, -, -, -, -, -, -⟩ := hV
  replace e1 := ft hR e1
  replace D_cn0 := D_cn0.ext hk
  replace D_ci0 := D_ci0.ext hk
  replace e87 := e87.q
  replace own_b1_2 := own_b1_2.ext hk
  replace kw := kw.x hk
  clear hR hk hg hP
  refine zn (hK35 _ _ ?_)
  refine zc e87 (fun hc => ?_) (fun hc => ?_)
  ·
   rw [hc, cond_true] at hp
   refine zq fun K37 hK37 => ?_
   refine rg mixed y36 zz36 ?_
   refine .ac ?_
   refine .dn fun a38 g W38 y38 zz38 hk hg hV hR hP => ?_
   obtain ⟨e2, -⟩ := hV
   replace D_cn0 := D_cn0.ext hk
   replace D_ci0 := D_ci0.ext hk
   replace e2 := e2.q
   replace own_b1_2 := own_b1_2.ext hk
   replace kw := kw.x hk
   clear hR hk hg hP
   refine zn (hK37 _ _ ?_)
   refine wp_ret ?_
   refine ret1 rfl zz38 e2 ⟨_, rfl, kw, ?_⟩
   rw [hp]
  rw [hc, cond_false] at hp
  refine wp_skip (hK34 _ _ ?_)
  refine zq fun K39 hK39 => ?_
  refine zq fun K40 hK40 => ?_
  refine rg mixed y36 zz36 ?_
  refine .i (fo 3 (hbs rfl e1) Tryz.underlying26 rfl sz23 rfl) ?_
  refine .i (lo1 (hlc rfl) own_b1_2 trivial agg23 sz23 rfl) ?_
  refine .i (sp_lenSs Tryz.underlying23 ((hlc rfl).dat D_cn0 sub_all)) ?_
  refine .i (sp_move Has.cst) ?_
  refine .dn fun a41 g W41 y41 zz41 hk hg hV hR hP => ?_
  obtain ⟨e91, e90, e89, -, -⟩ := hV
  replace D_cn0 := D_cn0.ext hk
  replace D_ci0 := D_ci0.ext hk
  replace e89 := e89.q
  replace e90 := e90.q
  replace e91 := e91.q
  replace own_b1_2 := own_b1_2.ext hk
  replace kw := kw.x hk
  clear hR hk hg hP
  refine zn (hK40 _ _ ?_)
  refine wp_block ?_
  replace D_cn0 := sa_less (M' := []) D_cn0 ls_nil
  refine wp_for (x.ns.length) (fun k a W => a.tmps.size = 99 ∧ a.defers = [] ∧ Keeps All w W ∧ sl a 89 = (.slice cn0a (x.ns.length) cn0c) ∧ sl a 90 = (.int .i64 (x.ns.length)) ∧ sl a 91 = (.int .i64 ((k : Nat))) ∧ Rd W (SA w S []) (strsD (x.ns)) (.slice cn0a (x.ns.length) cn0c) ∧ (∀ i (h1 : i < x.ns.length), i < k → wr x.ns[i] = true)) ⟨y41, zz41, kw, e89, e90, (e91.trans (congrArg (Value.int .i64) (rfl))), D_cn0, fun i h1 hi => absurd hi (by omega)⟩ ?_
  clear kw e89 e90 e91 D_cn0
  rintro k a42 W42 hkk ⟨y42, zz42, kw, e89, e90, e91, D_cn0, hinv⟩
  refine zq fun K43 hK43 => ?_
  refine rg mixed y42 zz42 ?_
  refine .i (sp_lss (hbs rfl e91) (hbs rfl e90)) ?_
  refine .dn fun a44 g W44 y44 zz44 hk hg hV hR hP => ?_
  obtain ⟨e92, -⟩ := hV
  replace e89 := ft hR e89
  replace e90 := ft hR e90
  replace e91 := ft hR e91
  replace D_cn0 := D_cn0.ext hk
  replace e92 := e92.q
  replace kw := kw.x hk
  clear hR hk hg hP
  refine zn (hK43 _ _ ?_)
  refine zq fun K45 hK45 => ?_
  refine zc e92 (fun hc => ?_) (fun hc => ?_)
  ·
   have hlt : k < x.ns.length := by simpa using hc
   refine wp_skip (hK45 _ _ ?_)
   refine zq fun K46 hK46 => ?_
   refine wp_block ?_
   refine zq fun K47 hK47 => ?_
   refine rg mixed y44 zz44 ?_
   refine .rf (sp_indexS (i := k) ((hbs rfl e89).dat D_cn0 sub_all) (hbs rfl e91) Tryz.underlying23 sz9 rfl hlt) ?_
   refine .i (sp_loadStr (hlc rfl) agg9 sz9) ?_
   refine .al rfl ?_
   refine .dn fun a48 g W48 y48 zz48 hk hg hV hR hP => ?_
   obtain ⟨e4, -, -, -⟩ := hV
   replace e89 := ft hR e89
   replace e90 := ft hR e90
   replace e91 := ft hR e91
   replace D_cn0 := D_cn0.ext hk
   replace e4 := e4.q
   replace kw := kw.x hk
   clear hR hk hg hP
   refine zn (hK47 _ _ ?_)
   refine zq fun K49 hK49 => ?_
   refine rg mixed y48 zz48 ?_
   refine .mb rfl e4 ?_
   refine .i (v := (.bool (wr (x.ns[k]'hlt)))) (sp_call1 (φ1 := Is (.string (x.ns[k]'hlt))) ent84 (hlc rfl) (fun g u1 W hk hgk h1 => by have h1 : u1 = _ := h1; subst u1; exact written_ok (x.ns[k]'hlt) W)) ?_
   refine .i (sp_not (hlc rfl)) ?_
   refine .dn fun a50 g W50 y50 zz50 hk hg hV hR hP => ?_
   obtain ⟨e97, -, -, -⟩ := hV
   replace e89 := ft hR e89
   replace e90 := ft hR e90
   replace e91 := ft hR e91
   replace D_cn0 := D_cn0.ext hk
   replace e97 := e97.q
   replace kw := kw.x hk
   clear hR hk hg hP
   refine zn (hK49 _ _ ?_)
   refine zc e97 (fun hc => ?_) (fun hc => ?_)
   ·
    rw [List.all_eq_false.2 ⟨_, List.getElem_mem hlt, by simpa using hc⟩] at hp
    refine zq fun K51 hK51 => ?_
    refine rg mixed y50 zz50 ?_
    refine .ac ?_
    refine .dn fun a52 g W52 y52 zz52 hk hg hV hR hP => ?_
    obtain ⟨e2, -⟩ := hV
    replace D_cn0 := D_cn0.ext hk
    replace e2 := e2.q
    replace kw := kw.x hk
    clear hR hk hg hP
    refine zn (hK51 _ _ ?_)
    refine wp_ret ?_
    refine ret1 rfl zz52 e2 ⟨_, rfl, kw, ?_⟩
    rw [hp]
   have hk1 : wr x.ns[k] = true := by simpa using hc
   refine wp_skip (hK46 _ _ ?_)
   refine rg mixed y50 zz50 ?_
   refine .i (sp_add (hbs rfl e91) Has.cst (i64_in (by omega))) ?_
   refine .i (sp_move (hlc rfl)) ?_
   refine .dn fun a53 g W53 y53 zz53 hk hg hV hR hP => ?_
   obtain ⟨e91, -, -⟩ := hV
   replace e89 := ft hR e89
   replace e90 := ft hR e90
   replace D_cn0 := D_cn0.ext hk
   replace e91 := e91.q
   replace kw := kw.x hk
   clear hR hk hg hP
   exact tail_nil ⟨hlt, y53, zz53, kw, e89, e90, (e91.trans (congrArg (Value.int .i64) (by simp))), D_cn0, fun i h1 hi => by rcases Nat.lt_succ_iff_lt_or_eq.1 hi with h | h; exact hinv i h1 h; subst h; exact hk1⟩
  have hge0 : ¬ k < x.ns.length := by simpa using hc
  have hge : k = x.ns.length := by omega
  rw [List.all_eq_true.2 (fun q hq => by obtain ⟨i, h1, rfl⟩ := List.getElem_of_mem hq; exact hinv i h1 (by omega))] at hp
  refine wp_exit (hK39 _ _ ?_)
  refine zq fun K54 hK54 => ?_
  refine rg mixed y44 zz44 ?_
  refine .ac ?_
  refine .dn fun a55 g W55 y55 zz55 hk hg hV hR hP => ?_
  obtain ⟨e2, -⟩ := hV
  replace D_cn0 := D_cn0.ext hk
  replace e2 := e2.q
  replace kw := kw.x hk
  clear hR hk hg hP
  refine zn (hK54 _ _ ?_)
  refine wp_ret ?_
  refine ret1 rfl zz55 e2 ⟨_, rfl, kw, ?_⟩
  rw [hp]
 rw [hc, cond_false] at hp
 refine wp_skip (hK13 _ _ ?_)
 refine zq fun K56 hK56 => ?_
 refine rg mixed y33 zz33 ?_
 refine .ac ?_
 refine .dn fun a57 g W57 y57 zz57 hk hg hV hR hP => ?_
 obtain ⟨e2, -⟩ := hV
 replace D_cn0 := D_cn0.ext hk
 replace D_ci0 := D_ci0.ext hk
 replace e2 := e2.q
 replace own_b1_2 := own_b1_2.ext hk
 replace kw := kw.x hk
 clear hR hk hg hP
 refine zn (hK56 _ _ ?_)
 refine wp_ret ?_
 refine ret1 rfl zz57 e2 ⟨_, rfl, kw, ?_⟩
 rw [hp]
end Go.Proofs.YtnobijngkpflcaaGreat
namespace Go.Proofs.YtnobijngkpflcaaGreat
open Go.Eng
set_option maxRecDepth 100000 in
theorem may_all : ∀ (n : Nat) (x : V), x.cnt ≤ n → n ≤ 1073741824 → ∀ (nested : Nat) (left : Int), nested ≤ 12 → 0 ≤ left → left ≤ 8192 → ∀ (w : World) (S : BSet) (v : Value) (bL : Nat), (∀ o, ¬ S bL o) → Own w bL [.int .i64 left] 3 → Rd w S x.d v →
   Calls Tryz.prog 48 #[v, .int .i64 nested, .pointer (some ⟨bL, 0, none⟩)] w (RetB w bL fun u w' => u = .bool (mayV x nested left).1 ∧ Own w' bL [.int .i64 (mayV x nested left).2] 3) := by
 intro n
 induction n with
 | zero => intro x hx; cases x; simp [V.cnt] at hx
 | succ n ih =>
 intro x hx hn nested left hnst hl0 hl w S v bL hbL own_bL hv
 have hM : ∀ b ∈ [bL], ∀ o, ¬ S b o := by simpa using hbL
 have hcx := cnt_eq x
 have hlx := len_cnts x.xs
 have hme := mayV_eq x nested left
 obtain ⟨cn0a, cn0c, ci0a, ci0c, ev, ht0, D_cn0, D_ci0⟩ := rdV_out (rd_argM (M := [bL]) hv hM)
 subst ev
 refine enter Tryz.func48 rfl Tryz.ntmps48 (lbr rfl) fun a0 y0 zz0 harg => ?_
 have e0 : sl a0 0 = (.agg #[(.int .u8 (x.k)), (.int .i64 (x.n)), (.string (x.t)), (.slice cn0a (x.ns.length) cn0c), (.slice ci0a (x.xs.length) ci0c)]) := harg 0 (lbr rfl)
 have e1 : sl a0 1 = (.int .i64 ((nested : Nat))) := harg 1 (lbr rfl)
 have e2 : sl a0 2 = (.pointer (some ⟨bL, 0, none⟩)) := harg 2 (lbr rfl)
 have kw := Keeps.refl (fun k => k ≠ bL) w
 clear harg
 refine zq fun K1 hK1 => ?_
 refine rg mixed y0 zz0 ?_
 refine .boxOp (v := (.agg #[(.int .u8 (x.k)), (.int .i64 (x.n)), (.string (x.t)), (.slice cn0a (x.ns.length) cn0c), (.slice ci0a (x.xs.length) ci0c)])) (hbs rfl e0) ?_
 refine .ac ?_
 refine .dn fun a2 g W2 y2 zz2 hk hg hV hR hP => ?_
 obtain ⟨-, ⟨b3_2, e3, hb3, own_b3_2⟩, -⟩ := hV
 have lo_b3_2 : w.heap.size ≤ b3_2 := Nat.le_trans kw.size (hg.lo _ _ hb3)
 have ne_bL_b3_2 : bL ≠ b3_2 := Nat.ne_of_lt (Nat.lt_of_lt_of_le own_bL.lt (hg.lo _ _ hb3))
 have own_b3_2 : Own W2 b3_2 [(.int .u8 (x.k)), (.int .i64 (x.n)), (.string (x.t)), (.slice cn0a (x.ns.length) cn0c), (.slice ci0a (x.xs.length) ci0c)] 26 := own_b3_2
 replace e1 := ft hR e1
 replace e2 := ft hR e2
 replace D_cn0 := sa_more D_cn0 hk [b3_2] (in_cons (hg.lo _ _ hb3) in_nil)
 replace D_ci0 := sa_more D_ci0 hk [b3_2] (in_cons (hg.lo _ _ hb3) in_nil)
 replace own_bL := own_bL.ext hk
 replace kw := kw.x hk
 clear hR hk hg hP hb3
 refine zn (hK1 _ _ ?_)
 refine zq fun K3 hK3 => ?_
 refine rg mixed y2 zz2 ?_
 refine .mb rfl e2 ?_
 refine .i (sp_nilP (hlc rfl)) ?_
 refine .i (lo1 (hlc rfl) own_bL trivial agg3 sz3 rfl) ?_
 refine .i (sp_sub (hlc rfl) Has.cst (i64_in (by omega))) ?_
 refine .i (sp_nilP (hlc rfl)) ?_
 refine .dn fun a4 g W4 y4 zz4 hk hg hV hR hP => ?_
 obtain ⟨e13, e12, -, -, -, -⟩ := hV
 replace e1 := ft hR e1
 replace e2 := ft hR e2
 replace e3 := ft hR e3
 replace D_cn0 := D_cn0.ext hk
 replace D_ci0 := D_ci0.ext hk
 replace e12 := e12.q
 have e13 : sl a4 13 = (.pointer (some ⟨bL, 0, none⟩)) := e13
 replace own_bL := own_bL.ext hk
 replace own_b3_2 := own_b3_2.ext hk
 replace kw := kw.x hk
 clear hR hk hg hP
 refine tail_store e13 e12 sz3 rfl own_bL (lbr rfl) (all_cons rfl all_nil) (fun W5 hs own_bL => ?_)
 have own_bL : Own W5 bL [(.int .i64 ((left : Int) - (1 : Int)))] 3 := own_bL
 replace own_b3_2 := own_store own_b3_2 hs ne_bL_b3_2.symm
 replace D_cn0 := sa_store D_cn0 hs (by simp)
 replace D_ci0 := sa_store D_ci0 hs (by simp)
 replace kw := kw.trans hs
 clear hs
 refine zn (hK3 _ _ ?_)
 refine zq fun K6 hK6 => ?_
 refine zq fun K7 hK7 => ?_
 refine rg mixed y4 zz4 ?_
 refine .mb rfl e2 ?_
 refine .i (sp_nilP (hlc rfl)) ?_
 refine .i (lo1 (hlc rfl) own_bL trivial agg3 sz3 rfl) ?_
 refine .i (sp_lss (hlc rfl) Has.cst) ?_
 refine .i (sp_move (hlc rfl)) ?_
 refine .e (v := (.agg #[(.int .u8 (x.k)), (.int .i64 (x.n)), (.string (x.t)), (.slice cn0a (x.ns.length) cn0c), (.slice ci0a (x.xs.length) ci0c)])) rfl (hlc rfl) (fun hg => loA (hbs rfl e3) own_b3_2 trivial agg26 sz26 rfl rfl) ?_
 refine .e (v := (.bool (properB (x)))) rfl (hlc rfl) (fun hg => sp_call1 (φ1 := IsD (SA w S [b3_2, bL]) (V.d (x))) ent71 (((hlc rfl).undE hg).dat (rdV_in (x := x) ht0 D_cn0 D_ci0 : Rd W5 (SA w S [b3_2, bL]) (V.d (x)) _) sub_all) (fun g u1 W hk hgk h1 => proper_ok (x) W _ _ h1)) ?_
 refine .e rfl (hlc rfl) (fun hg => sp_not ((hlc rfl).undE hg)) ?_
 refine .i (sp_or (hlc rfl) ((hlc rfl).weak fun hq => hq)) ?_
 refine .dn fun a8 g W8 y8 zz8 hk hg hV hR hP => ?_
 obtain ⟨e22, -, -, -, -, -, -, -, -, -⟩ := hV
 replace e1 := ft hR e1
 replace e2 := ft hR e2
 replace e3 := ft hR e3
 replace D_cn0 := D_cn0.ext hk
 replace D_ci0 := D_ci0.ext hk
 replace e22 := e22.q
 replace own_bL := own_bL.ext hk
 replace own_b3_2 := own_b3_2.ext hk
 replace kw := kw.x hk
 clear hR hk hg hP
 refine zn (hK7 _ _ ?_)
 refine zc e22 (fun hc => ?_) (fun hc => ?_)
 ·
  rw [if_pos (by rcases (Bool.or_eq_true _ _).mp hc with h | h; exact .inl (of_decide_eq_true h); exact .inr (by simpa using h))] at hme
  have hfin := hme
  refine zq fun K9 hK9 => ?_
  refine rg mixed y8 zz8 ?_
  refine .ac ?_
  refine .dn fun a10 g W10 y10 zz10 hk hg hV hR hP => ?_
  obtain ⟨e6, -⟩ := hV
  replace D_cn0 := D_cn0.ext hk
  replace D_ci0 := D_ci0.ext hk
  replace e6 := e6.q
  replace own_bL := own_bL.ext hk
  replace own_b3_2 := own_b3_2.ext hk
  replace kw := kw.x hk
  clear hR hk hg hP
  refine zn (hK9 _ _ ?_)
  refine wp_ret ?_
  refine ret1 rfl zz10 e6 ⟨_, rfl, kw, ?_⟩
  rw [hfin]
  exact ⟨rfl, own_bL⟩
 have hd := of_decide_eq_false (Bool.or_eq_false_iff.1 hc).1
 have hpp : properB x = true := by simpa using (Bool.or_eq_false_iff.1 hc).2
 rw [if_neg (by rintro (h | h); exact hd h; rw [hpp] at h; cases h)] at hme
 refine wp_skip (hK6 _ _ ?_)
 refine zq fun K11 hK11 => ?_
 refine zq fun K12 hK12 => ?_
 refine rg mixed y8 zz8 ?_
 refine .i (fo 0 (hbs rfl e3) Tryz.underlying26 rfl sz5 rfl) ?_
 refine .i (lo1 (hlc rfl) own_b3_2 trivial agg5 sz5 rfl) ?_
 refine .i (sp_neq (hlc rfl) Has.cst) ?_
 refine .i (sp_move (hlc rfl)) ?_
 refine .e rfl (hlc rfl) (fun hg => fo 0 (hbs rfl e3) Tryz.underlying26 rfl sz5 rfl) ?_
 refine .e rfl (hlc rfl) (fun hg => lo1 ((hlc rfl).undE hg) own_b3_2 trivial agg5 sz5 rfl) ?_
 refine .e rfl (hlc rfl) (fun hg => sp_neq ((hlc rfl).undE hg) Has.cst) ?_
 refine .i (sp_and (hlc rfl) ((hlc rfl).weak fun hq => hq)) ?_
 refine .dn fun a13 g W13 y13 zz13 hk hg hV hR hP => ?_
 obtain ⟨e30, -, -, -, -, -, -, -, -⟩ := hV
 replace e1 := ft hR e1
 replace e2 := ft hR e2
 replace e3 := ft hR e3
 replace D_cn0 := D_cn0.ext hk
 replace D_ci0 := D_ci0.ext hk
 replace e30 := e30.q
 replace own_bL := own_bL.ext hk
 replace own_b3_2 := own_b3_2.ext hk
 replace kw := kw.x hk
 clear hR hk hg hP
 refine zn (hK12 _ _ ?_)
 refine zc e30 (fun hc => ?_) (fun hc => ?_)
 ·
  rw [if_pos (by simp at hc; omega)] at hme
  have hfin := hme
  refine zq fun K14 hK14 => ?_
  refine rg mixed y13 zz13 ?_
  refine .ac ?_
  refine .dn fun a15 g W15 y15 zz15 hk hg hV hR hP => ?_
  obtain ⟨e6, -⟩ := hV
  replace D_cn0 := D_cn0.ext hk
  replace D_ci0 := D_ci0.ext hk
  replace e6 := e6.q
  replace own_bL := own_bL.ext hk
  replace own_b3_2 := own_b3_2.ext hk
  replace kw := kw.x hk
  clear hR hk hg hP
  refine zn (hK14 _ _ ?_)
  refine wp_ret ?_
  refine ret1 rfl zz15 e6 ⟨_, rfl, kw, ?_⟩
  rw [hfin]
  exact ⟨rfl, own_bL⟩
 rw [if_neg (by simp at hc; omega)] at hme
 refine wp_skip (hK11 _ _ ?_)
 refine zq fun K16 hK16 => ?_
 refine zq fun K17 hK17 => ?_
 refine rg mixed y13 zz13 ?_
 refine .mb rfl e1 ?_
 refine .i (sp_eql (hlc rfl) Has.cst) ?_
 refine .dn fun a18 g W18 y18 zz18 hk hg hV hR hP => ?_
 obtain ⟨e32, -, -⟩ := hV
 replace e1 := ft hR e1
 replace e2 := ft hR e2
 replace e3 := ft hR e3
 replace D_cn0 := D_cn0.ext hk
 replace D_ci0 := D_ci0.ext hk
 replace e32 := e32.q
 replace own_bL := own_bL.ext hk
 replace own_b3_2 := own_b3_2.ext hk
 replace kw := kw.x hk
 clear hR hk hg hP
 refine zn (hK17 _ _ ?_)
 refine zc e32 (fun hc => ?_) (fun hc => ?_)
 ·
  rw [if_pos (by simp at hc; omega)] at hme
  have hfin := hme
  refine zq fun K19 hK19 => ?_
  refine rg mixed y18 zz18 ?_
  refine .ac ?_
  refine .dn fun a20 g W20 y20 zz20 hk hg hV hR hP => ?_
  obtain ⟨e6, -⟩ := hV
  replace D_cn0 := D_cn0.ext hk
  replace D_ci0 := D_ci0.ext hk
  replace e6 := e6.q
  replace own_bL := own_bL.ext hk
  replace own_b3_2 := own_b3_2.ext hk
  replace kw := kw.x hk
  clear hR hk hg hP
  refine zn (hK19 _ _ ?_)
  refine wp_ret ?_
  refine ret1 rfl zz20 e6 ⟨_, rfl, kw, ?_⟩
  rw [hfin]
  exact ⟨rfl, own_bL⟩
 have hnz : ¬ nested = 0 := by simp at hc; omega
 rw [if_neg hnz] at hme
 refine wp_skip (hK16 _ _ ?_)
 refine zq fun K21 hK21 => ?_
 refine zq fun K22 hK22 => ?_
 refine rg mixed y18 zz18 ?_
 refine .i (fo 4 (hbs rfl e3) Tryz.underlying26 rfl sz24 rfl) ?_
 refine .i (lo1 (hlc rfl) own_b3_2 trivial agg24 sz24 rfl) ?_
 refine .i (sp_lenVs Tryz.underlying24 ((hlc rfl).dat D_ci0 sub_all)) ?_
 refine .i (sp_move Has.cst) ?_
 refine .dn fun a23 g W23 y23 zz23 hk hg hV hR hP => ?_
 obtain ⟨e36, e35, e34, -, -⟩ := hV
 replace e1 := ft hR e1
 replace e2 := ft hR e2
 replace D_cn0 := D_cn0.ext hk
 replace D_ci0 := D_ci0.ext hk
 replace e34 := e34.q
 replace e35 := e35.q
 replace e36 := e36.q
 replace own_bL := own_bL.ext hk
 replace own_b3_2 := own_b3_2.ext hk
 replace kw := kw.x hk
 clear hR hk hg hP
 refine zn (hK22 _ _ ?_)
 refine wp_block ?_
 replace D_ci0 := sa_less (M' := [bL]) D_ci0 (ls_skip (ls_keep ls_nil))
 refine wp_for (x.xs.length) (fun k a W => ∃ (l2 : Int), a.tmps.size = 47 ∧ a.defers = [] ∧ Keeps (fun k => k ≠ bL) w W ∧ sl a 1 = (.int .i64 ((nested : Nat))) ∧ sl a 2 = (.pointer (some ⟨bL, 0, none⟩)) ∧ sl a 34 = (.slice ci0a (x.xs.length) ci0c) ∧ sl a 35 = (.int .i64 (x.xs.length)) ∧ sl a 36 = (.int .i64 ((k : Nat))) ∧ Own W bL [(.int .i64 (l2))] 3 ∧ Rd W (SA w S [bL]) (valsD (x.xs)) (.slice ci0a (x.xs.length) ci0c) ∧ (mayL x.xs (nested - 1) (left - 1) = mayL (x.xs.drop k) (nested - 1) l2) ∧ (0 ≤ l2) ∧ (l2 ≤ left)) ⟨(left - 1), y23, zz23, kw, e1, e2, e34, e35, (e36.trans (congrArg (Value.int .i64) (rfl))), own_bL, D_ci0, rfl, by omega, by omega⟩ ?_
 clear kw e1 e2 e34 e35 e36 own_bL D_ci0
 rintro k a24 W24 hkk ⟨l2, y24, zz24, kw, e1, e2, e34, e35, e36, own_bL, D_ci0, hin, hl2, hl3⟩
 refine zq fun K25 hK25 => ?_
 refine rg mixed y24 zz24 ?_
 refine .i (sp_lss (hbs rfl e36) (hbs rfl e35)) ?_
 refine .dn fun a26 g W26 y26 zz26 hk hg hV hR hP => ?_
 obtain ⟨e37, -⟩ := hV
 replace e1 := ft hR e1
 replace e2 := ft hR e2
 replace e34 := ft hR e34
 replace e35 := ft hR e35
 replace e36 := ft hR e36
 replace D_ci0 := D_ci0.ext hk
 replace e37 := e37.q
 replace own_bL := own_bL.ext hk
 replace kw := kw.x hk
 clear hR hk hg hP
 refine zn (hK25 _ _ ?_)
 refine zq fun K27 hK27 => ?_
 refine zc e37 (fun hc => ?_) (fun hc => ?_)
 ·
  have hlt : k < x.xs.length := by simpa using hc
  have hdr := List.drop_eq_getElem_cons hlt
  rw [hdr, mayL] at hin
  have hce := cnt_elem hlt
  have hvl := mayV_le x.xs[k] (nested - 1) l2 hl2
  refine wp_skip (hK27 _ _ ?_)
  refine zq fun K28 hK28 => ?_
  refine wp_block ?_
  refine zq fun K29 hK29 => ?_
  refine rg mixed y26 zz26 ?_
  refine .rf (sp_indexV (i := k) ((hbs rfl e34).dat D_ci0 sub_all) (hbs rfl e36) Tryz.underlying24 sz26 rfl hlt) ?_
  refine .da (sp_loadV (hlc rfl) agg26 sz26) ?_
  refine .alloc z26 ?_
  refine .dn fun a30 g W30 y30 zz30 hk hg hV hR hP => ?_
  obtain ⟨⟨b8_30, e8, hb8, own_b8_30⟩, e39, -, -⟩ := hV
  have lo_b8_30 : w.heap.size ≤ b8_30 := Nat.le_trans kw.size (hg.lo _ _ hb8)
  have ne_bL_b8_30 : bL ≠ b8_30 := Nat.ne_of_lt (Nat.lt_of_lt_of_le own_bL.lt (hg.lo _ _ hb8))
  have own_b8_30 : Own W30 b8_30 [(.int .u8 (0)), (.int .i64 (0)), (.string (⟨#[]⟩)), (.slice none 0 0), (.slice none 0 0)] 26 := own_b8_30
  replace e1 := ft hR e1
  replace e2 := ft hR e2
  replace e34 := ft hR e34
  replace e35 := ft hR e35
  replace e36 := ft hR e36
  replace D_ci0 := sa_more D_ci0 hk [b8_30] (in_cons (hg.lo _ _ hb8) in_nil)
  obtain ⟨v39_30, ev⟩ : ∃ v, sl a30 39 = v := ⟨_, rfl⟩
  rw [ev] at e39
  have D_v39_30 : Rd W30 (SA w S [b8_30, bL]) (V.d (x.xs[k]'hlt)) v39_30 := sa_end e39 hk [b8_30] (in_cons ⟨_, hb8⟩ in_nil)
  replace e39 := ev; clear ev
  obtain ⟨cn39_30a, cn39_30c, ci39_30a, ci39_30c, ev, ht_v39_30, D_cn39_30, D_ci39_30⟩ := rdV_out D_v39_30
  subst ev; clear D_v39_30
  replace own_bL := own_bL.ext hk
  replace kw := kw.x hk
  clear hR hk hg hP hb8
  refine tail_store e8 e39 sz26 rfl own_b8_30 (lbr rfl) (all_cons rfl (all_cons rfl (all_cons rfl (all_cons rfl (all_cons rfl all_nil))))) (fun W31 hs own_b8_30 => ?_)
  have own_b8_30 : Own W31 b8_30 [(.int .u8 ((x.xs[k]'hlt).k)), (.int .i64 ((x.xs[k]'hlt).n)), (.string ((x.xs[k]'hlt).t)), (.slice cn39_30a (((x.xs[k]'hlt).ns).length) cn39_30c), (.slice ci39_30a (((x.xs[k]'hlt).xs).length) ci39_30c)] 26 := own_b8_30
  replace own_bL := own_store own_bL hs ne_bL_b8_30
  replace D_ci0 := sa_store D_ci0 hs (by simp)
  replace D_cn39_30 := sa_store D_cn39_30 hs (by simp)
  replace D_ci39_30 := sa_store D_ci39_30 hs (by simp)
  replace kw := keeps_store kw hs lo_b8_30
  clear hs
  refine zn (hK29 _ _ ?_)
  refine zq fun K32 hK32 => ?_
  refine wp_reg (fun k => k ≠ bL) (Ψ := fun W => Own W bL [(.int .i64 (l2))] 3) mixed y30 zz30 (fun W W' k h => h.ext k) own_bL ?_
  refine .i (v := (.agg #[(.int .u8 ((x.xs[k]'hlt).k)), (.int .i64 ((x.xs[k]'hlt).n)), (.string ((x.xs[k]'hlt).t)), (.slice cn39_30a (((x.xs[k]'hlt).ns).length) cn39_30c), (.slice ci39_30a (((x.xs[k]'hlt).xs).length) ci39_30c)])) (loA (hbs rfl e8) own_b8_30 ne_bL_b8_30.symm agg26 sz26 rfl rfl) ?_
  refine .mb rfl e1 ?_
  refine .i (sp_sub (hlc rfl) Has.cst (i64_in (by omega))) ?_
  refine .mb rfl e2 ?_
  refine .callW3 (φ1 := IsD (SA w S [b8_30, bL]) (V.d ((x.xs[k]'hlt)))) (φ2 := Is (.int .i64 (((nested : Nat) : Int) - (1 : Int)))) (φ3 := Is (.pointer (some ⟨bL, 0, none⟩))) (φ := Is (.bool ((mayV ((x.xs[k]'hlt)) (nested - 1) (l2)).1))) (Ψ' := fun W => Own W bL [(.int .i64 ((mayV ((x.xs[k]'hlt)) (nested - 1) (l2)).2))] 3) ent48 ((hlc rfl).dat (rdV_in (x := (x.xs[k]'hlt)) ht_v39_30 D_cn39_30 D_ci39_30 : Rd W31 (SA w S [b8_30, bL]) (V.d ((x.xs[k]'hlt))) _) (sub_ne (by simp))) (hlc rfl) (hlc rfl) (st_is _) (fun W W' k h => h.ext k) (fun g u1 u2 u3 W hk hg h1 h2 h3 hP => by have h2 : u2 = _ := h2; subst u2; have h3 : u3 = _ := h3; subst u3; rw [show ((nested : Nat) : Int) - (1 : Int) = ((nested - 1 : Nat) : Int) by omega]; exact ih ((x.xs[k]'hlt)) (by omega) (by omega) (nested - 1) (l2) (by omega) (by omega) (by omega) W _ _ bL (fun o h => h.1.2.2 (by simp)) hP h1) ?_
  refine .i (sp_not (hlc rfl)) ?_
  refine .dn fun a33 g W33 y33 zz33 hk hg hV hR hP => ?_
  obtain ⟨e45, -, -, -, -, -, -⟩ := hV
  replace e1 := ft hR e1
  replace e2 := ft hR e2
  replace e34 := ft hR e34
  replace e35 := ft hR e35
  replace e36 := ft hR e36
  replace D_ci0 := sa_store D_ci0 hk (by simp)
  replace D_cn39_30 := sa_store D_cn39_30 hk (by simp)
  replace D_ci39_30 := sa_store D_ci39_30 hk (by simp)
  replace e45 := e45.q
  replace own_b8_30 := own_store own_b8_30 hk ne_bL_b8_30.symm
  replace own_bL : Own W33 bL [(.int .i64 ((mayV ((x.xs[k]'hlt)) (nested - 1) (l2)).2))] 3 := hP
  replace kw := kw.trans hk
  clear hR hk hg hP
  refine zn (hK32 _ _ ?_)
  refine zc e45 (fun hc => ?_) (fun hc => ?_)
  ·
   have hok : (mayV x.xs[k] (nested - 1) l2).1 = false := by simpa using hc
   have hfin : mayV x nested left = (false, (mayV x.xs[k] (nested - 1) l2).2) := by rw [hme, hin, if_pos hok]
   refine zq fun K34 hK34 => ?_
   refine rg mixed y33 zz33 ?_
   refine .ac ?_
   refine .dn fun a35 g W35 y35 zz35 hk hg hV hR hP => ?_
   obtain ⟨e6, -⟩ := hV
   replace D_ci0 := D_ci0.ext hk
   replace e6 := e6.q
   replace own_bL := own_bL.ext hk
   replace own_b8_30 := own_b8_30.ext hk
   replace kw := kw.x hk
   clear hR hk hg hP
   refine zn (hK34 _ _ ?_)
   refine wp_ret ?_
   refine ret1 rfl zz35 e6 ⟨_, rfl, kw, ?_⟩
   rw [hfin]
   exact ⟨rfl, own_bL⟩
  have hok : (mayV x.xs[k] (nested - 1) l2).1 = true := by simpa using hc
  rw [if_neg (by simp [hok])] at hin
  have hvp := hvl.2.2 hok
  refine wp_skip (hK28 _ _ ?_)
  refine rg mixed y33 zz33 ?_
  refine .i (sp_add (hbs rfl e36) Has.cst (i64_in (by omega))) ?_
  refine .i (sp_move (hlc rfl)) ?_
  refine .dn fun a36 g W36 y36 zz36 hk hg hV hR hP => ?_
  obtain ⟨e36, -, -⟩ := hV
  replace e1 := ft hR e1
  replace e2 := ft hR e2
  replace e34 := ft hR e34
  replace e35 := ft hR e35
  replace D_ci0 := D_ci0.ext hk
  replace e36 := e36.q
  replace own_bL := own_bL.ext hk
  replace own_b8_30 := own_b8_30.ext hk
  replace kw := kw.x hk
  clear hR hk hg hP
  exact tail_nil ⟨hlt, _, y36, zz36, kw, e1, e2, e34, e35, (e36.trans (congrArg (Value.int .i64) (by simp))), own_bL, (sa_less D_ci0 (ls_skip (ls_keep ls_nil))), hin, hvp, by omega⟩
 have hge0 : ¬ k < x.xs.length := by simpa using hc
 have hge : k = x.xs.length := by omega
 have hfin : mayV x nested left = (true, l2) := by rw [hme, hin, hge, List.drop_length]; rfl
 refine wp_exit (hK21 _ _ ?_)
 refine zq fun K37 hK37 => ?_
 refine rg mixed y26 zz26 ?_
 refine .ac ?_
 refine .dn fun a38 g W38 y38 zz38 hk hg hV hR hP => ?_
 obtain ⟨e6, -⟩ := hV
 replace D_ci0 := D_ci0.ext hk
 replace e6 := e6.q
 replace own_bL := own_bL.ext hk
 replace kw := kw.x hk
 clear hR hk hg hP
 refine zn (hK37 _ _ ?_)
 refine wp_ret ?_
 refine ret1 rfl zz38 e6 ⟨_, rfl, kw, ?_⟩
 rw [hfin]
 exact ⟨rfl, own_bL⟩
set_option maxRecDepth 100000 in
theorem May_ok (x : V) (hx : x.cnt ≤ 1073741824) (w : World) (S : BSet) (v : Value) (hv : Rd w S x.d v) : Calls Tryz.prog 29 #[v] w (Ret w fun u _ => u = .bool (mayB x)) := by
 obtain ⟨cn0a, cn0c, ci0a, ci0c, ev, ht0, D_cn0, D_ci0⟩ := rdV_out (rd_arg hv)
 subst ev
 refine enter Tryz.func29 rfl Tryz.ntmps29 (lbr rfl) fun a0 y0 zz0 harg => ?_
 have e0 : sl a0 0 = (.agg #[(.int .u8 (x.k)), (.int .i64 (x.n)), (.string (x.t)), (.slice cn0a (x.ns.length) cn0c), (.slice ci0a (x.xs.length) ci0c)]) := harg 0 (lbr rfl)
 have kw := Keeps.refl All w
 clear harg
 refine zq fun K1 hK1 => ?_
 refine rg mixed y0 zz0 ?_
 refine .boxOp (v := (.agg #[(.int .u8 (x.k)), (.int .i64 (x.n)), (.string (x.t)), (.slice cn0a (x.ns.length) cn0c), (.slice ci0a (x.xs.length) ci0c)])) (hbs rfl e0) ?_
 refine .ac ?_
 refine .dn fun a2 g W2 y2 zz2 hk hg hV hR hP => ?_
 obtain ⟨-, ⟨b1_2, e1, hb1, own_b1_2⟩, -⟩ := hV
 have lo_b1_2 : w.heap.size ≤ b1_2 := Nat.le_trans kw.size (hg.lo _ _ hb1)
 have own_b1_2 : Own W2 b1_2 [(.int .u8 (x.k)), (.int .i64 (x.n)), (.string (x.t)), (.slice cn0a (x.ns.length) cn0c), (.slice ci0a (x.xs.length) ci0c)] 26 := own_b1_2
 replace D_cn0 := sa_more D_cn0 hk [b1_2] (in_cons (hg.lo _ _ hb1) in_nil)
 replace D_ci0 := sa_more D_ci0 hk [b1_2] (in_cons (hg.lo _ _ hb1) in_nil)
 replace kw := kw.x hk
 clear hR hk hg hP hb1
 refine zn (hK1 _ _ ?_)
 refine zq fun K3 hK3 => ?_
 refine rg mixed y2 zz2 ?_
 refine .alloc z3 ?_
 refine .dn fun a4 g W4 y4 zz4 hk hg hV hR hP => ?_
 obtain ⟨⟨b3_4, e3, hb3, own_b3_4⟩, -⟩ := hV
 have lo_b3_4 : w.heap.size ≤ b3_4 := Nat.le_trans kw.size (hg.lo _ _ hb3)
 have ne_b1_2_b3_4 : b1_2 ≠ b3_4 := Nat.ne_of_lt (Nat.lt_of_lt_of_le own_b1_2.lt (hg.lo _ _ hb3))
 have own_b3_4 : Own W4 b3_4 [(.int .i64 (0))] 3 := own_b3_4
 replace e1 := ft hR e1
 replace D_cn0 := sa_more D_cn0 hk [b3_4] (in_cons (hg.lo _ _ hb3) in_nil)
 replace D_ci0 := sa_more D_ci0 hk [b3_4] (in_cons (hg.lo _ _ hb3) in_nil)
 replace own_b1_2 := own_b1_2.ext hk
 replace kw := kw.x hk
 clear hR hk hg hP hb3
 refine tail_store (b := b3_4) (o := 0) (v := (.int .i64 (8192))) e3 rfl sz3 rfl own_b3_4 (lbr rfl) (all_cons rfl all_nil) (fun W5 hs own_b3_4 => ?_)
 have own_b3_4 : Own W5 b3_4 [(.int .i64 (8192))] 3 := own_b3_4
 replace own_b1_2 := own_store own_b1_2 hs ne_b1_2_b3_4
 replace D_cn0 := sa_store D_cn0 hs (by simp)
 replace D_ci0 := sa_store D_ci0 hs (by simp)
 replace kw := keeps_store kw hs lo_b3_4
 clear hs
 refine zn (hK3 _ _ ?_)
 refine zq fun K6 hK6 => ?_
 refine wp_reg (fun k => k ≠ b3_4) (Ψ := fun W => Own W b3_4 [(.int .i64 (8192))] 3) mixed y4 zz4 (fun W W' k h => h.ext k) own_b3_4 ?_
 refine .i (v := (.agg #[(.int .u8 (x.k)), (.int .i64 (x.n)), (.string (x.t)), (.slice cn0a (x.ns.length) cn0c), (.slice ci0a (x.xs.length) ci0c)])) (loA (hbs rfl e1) own_b1_2 ne_b1_2_b3_4 agg26 sz26 rfl rfl) ?_
 refine .callW3 (φ1 := IsD (SA w S [b3_4, b1_2]) (V.d (x))) (φ2 := Is (.int .i64 (12))) (φ3 := Is (.pointer (some ⟨b3_4, 0, none⟩))) (φ := Is (.bool ((mayV (x) (12) (8192)).1))) (Ψ' := fun W => Own W b3_4 [(.int .i64 ((mayV (x) (12) (8192)).2))] 3) ent48 ((hlc rfl).dat (rdV_in (x := x) ht0 D_cn0 D_ci0 : Rd W5 (SA w S [b3_4, b1_2]) (V.d (x)) _) (sub_ne (by simp))) Has.cst (hbs rfl e3) (st_is _) (fun W W' k h => h.ext k) (fun g u1 u2 u3 W hk hg h1 h2 h3 hP => by have h2 : u2 = _ := h2; subst u2; have h3 : u3 = _ := h3; subst u3; exact may_all _ (x) (Nat.le_refl _) (by omega) (12) (8192) (by omega) (by omega) (by omega) W _ _ b3_4 (fun o h => h.1.2.2 (by simp)) hP h1) ?_
 refine .al rfl ?_
 refine .dn fun a7 g W7 y7 zz7 hk hg hV hR hP => ?_
 obtain ⟨e2, -, -, -⟩ := hV
 replace D_cn0 := sa_store D_cn0 hk (by simp)
 replace D_ci0 := sa_store D_ci0 hk (by simp)
 replace e2 := e2.q
 replace own_b1_2 := own_store own_b1_2 hk ne_b1_2_b3_4
 replace own_b3_4 : Own W7 b3_4 [(.int .i64 ((mayV (x) (12) (8192)).2))] 3 := hP
 replace kw := keeps_store kw hk lo_b3_4
 clear hR hk hg hP
 refine zn (hK6 _ _ ?_)
 refine wp_ret ?_
 refine ret1 rfl zz7 e2 ⟨_, rfl, kw, ?_⟩
 exact rfl
end Go.Proofs.YtnobijngkpflcaaGreat
namespace Go.Proofs.YtnobijngkpflcaaGreat
open Go.Eng
set_option maxRecDepth 100000 in
theorem clone_ok (ns : List ByteArray) (hn : ns.length ≤ 1073741824) (w : World) (S : BSet) (v : Value) (hv : Rd w S (strsD ns) v) : Calls Tryz.prog 76 #[v] w (Ret w fun u W => Rd W (Fr w) (strsD ns) u) := by
 obtain ⟨va, vc, ev, D_v⟩ := rdS_out (rd_arg hv)
 subst ev
 refine enter Tryz.func76 rfl Tryz.ntmps76 (lbr rfl) fun a0 y0 zz0 harg => ?_
 have e0 : sl a0 0 = (.slice va (ns.length) vc) := harg 0 (lbr rfl)
 have kw := Keeps.refl All w
 clear harg
 refine zq fun K1 hK1 => ?_
 refine rg mixed y0 zz0 ?_
 refine .ac ?_
 refine .dn fun a2 g W2 y2 zz2 hk hg hV hR hP => ?_
 obtain ⟨-, -⟩ := hV
 replace e0 := ft hR e0
 replace D_v := D_v.ext hk
 replace kw := kw.x hk
 clear hR hk hg hP
 refine zn (hK1 _ _ ?_)
 refine zq fun K3 hK3 => ?_
 refine zq fun K4 hK4 => ?_
 refine rg mixed y2 zz2 ?_
 refine .mb rfl e0 ?_
 refine .i (v := (.bool (va.isNone))) (sp_slNil Tryz.underlying23 (hlc rfl) Has.cst) ?_
 refine .dn fun a5 g W5 y5 zz5 hk hg hV hR hP => ?_
 obtain ⟨e4, -, -⟩ := hV
 replace e0 := ft hR e0
 replace D_v := D_v.ext hk
 replace e4 := e4.q
 replace kw := kw.x hk
 clear hR hk hg hP
 refine zn (hK4 _ _ ?_)
 refine zc e4 (fun hc => ?_) (fun hc => ?_)
 ·
  have hns : ns = [] := by simpa using rd_none (ds := ns.map D.str) D_v hc
  subst hns
  refine zq fun K6 hK6 => ?_
  refine rg mixed y5 zz5 ?_
  refine .ac ?_
  refine .dn fun a7 g W7 y7 zz7 hk hg hV hR hP => ?_
  obtain ⟨e2, -⟩ := hV
  replace D_v := D_v.ext hk
  replace e2 := e2.q
  replace kw := kw.x hk
  clear hR hk hg hP
  refine zn (hK6 _ _ ?_)
  refine wp_ret ?_
  refine ret1 rfl zz7 e2 ⟨_, rfl, kw, ?_⟩
  exact rd_nil _
 refine wp_skip (hK3 _ _ ?_)
 refine zq fun K8 hK8 => ?_
 refine rg mixed y5 zz5 ?_
 refine .op (φ := IsE 9) st_e (sp_bslE Tryz.underlying23 sz9) ?_
 refine .mb rfl e0 ?_
 refine .da (X := SF w []) (e := strsD (ns)) (sp_appS Tryz.underlying23 inf9 (hlc rfl) ((hlc rfl).dat D_v sub_all) (by omega) (by omega) (fr_sf kw in_nil)) ?_
 refine .da (X := SF w []) (e := strsD (ns)) (sp_assign (hlc rfl)) ?_
 refine .dn fun a9 g W9 y9 zz9 hk hg hV hR hP => ?_
 obtain ⟨e2, -, -, -, -⟩ := hV
 replace D_v := D_v.ext hk
 obtain ⟨v2_9, ev⟩ : ∃ v, sl a9 2 = v := ⟨_, rfl⟩
 rw [ev] at e2
 have D_v2_9 : Rd W9 (SF w []) (strsD (ns)) v2_9 := sf_end e2 hk [] in_nil
 replace e2 := ev; clear ev
 obtain ⟨v2_9a, v2_9c, ev, D2⟩ := rdS_out D_v2_9
 subst ev; replace D_v2_9 := D2; clear D2
 replace kw := kw.x hk
 clear hR hk hg hP
 refine zn (hK8 _ _ ?_)
 refine wp_ret ?_
 refine ret1 rfl zz9 e2 ⟨_, rfl, kw, ?_⟩
 exact sf_fr D_v2_9
set_option maxRecDepth 100000 in
theorem duplicate_all : ∀ (n : Nat) (x : V), x.wt ≤ n → n ≤ 1073741824 → ∀ (w : World) (S : BSet) (v : Value), Rd w S x.d v → Calls Tryz.prog 77 #[v] w (Ret w fun u W => Rd W (Fr w) x.d u) := by
 intro n
 induction n with
 | zero => intro x hx; have := wt_pos x; omega
 | succ n ih =>
 intro x hx hn w S v hv
 have hwx := wt_eq x
 have hwl := wts_len x.xs
 have hwn := wtN_len x.ns
 obtain ⟨cn0a, cn0c, ci0a, ci0c, ev, ht0, D_cn0, D_ci0⟩ := rdV_out (rd_arg hv)
 subst ev
 refine enter Tryz.func77 rfl Tryz.ntmps77 (lbr rfl) fun a0 y0 zz0 harg => ?_
 have e0 : sl a0 0 = (.agg #[(.int .u8 (x.k)), (.int .i64 (x.n)), (.string (x.t)), (.slice cn0a (x.ns.length) cn0c), (.slice ci0a (x.xs.length) ci0c)]) := harg 0 (lbr rfl)
 have kw := Keeps.refl All w
 clear harg
 refine zq fun K1 hK1 => ?_
 refine rg mixed y0 zz0 ?_
 refine .boxOp (v := (.agg #[(.int .u8 (x.k)), (.int .i64 (x.n)), (.string (x.t)), (.slice cn0a (x.ns.length) cn0c), (.slice ci0a (x.xs.length) ci0c)])) (hbs rfl e0) ?_
 refine .alloc z26 ?_
 refine .dn fun a2 g W2 y2 zz2 hk hg hV hR hP => ?_
 obtain ⟨⟨b2_2, e2, hb2, own_b2_2⟩, ⟨b1_2, e1, hb1, own_b1_2⟩, -⟩ := hV
 have lo_b2_2 : w.heap.size ≤ b2_2 := Nat.le_trans kw.size (hg.lo _ _ hb2)
 have own_b2_2 : Own W2 b2_2 [(.int .u8 (0)), (.int .i64 (0)), (.string (⟨#[]⟩)), (.slice none 0 0), (.slice none 0 0)] 26 := own_b2_2
 have lo_b1_2 : w.heap.size ≤ b1_2 := Nat.le_trans kw.size (hg.lo _ _ hb1)
 have own_b1_2 : Own W2 b1_2 [(.int .u8 (x.k)), (.int .i64 (x.n)), (.string (x.t)), (.slice cn0a (x.ns.length) cn0c), (.slice ci0a (x.xs.length) ci0c)] 26 := own_b1_2
 have ne_b2_2_b1_2 : b2_2 ≠ b1_2 := fun h => by have := hg.inj _ _ _ hb2 (h ▸ hb1); cases this
 replace D_cn0 := sa_more D_cn0 hk [b2_2, b1_2] (in_cons (hg.lo _ _ hb2) (in_cons (hg.lo _ _ hb1) in_nil))
 replace D_ci0 := sa_more D_ci0 hk [b2_2, b1_2] (in_cons (hg.lo _ _ hb2) (in_cons (hg.lo _ _ hb1) in_nil))
 replace kw := kw.x hk
 clear hR hk hg hP hb2 hb1
 refine zn (hK1 _ _ ?_)
 refine zq fun K3 hK3 => ?_
 refine rg mixed y2 zz2 ?_
 refine .i (fo 0 (hbs rfl e1) Tryz.underlying26 rfl sz5 rfl) ?_
 refine .i (lo1 (hlc rfl) own_b1_2 trivial agg5 sz5 rfl) ?_
 refine .i (fo 1 (hbs rfl e1) Tryz.underlying26 rfl sz2 rfl) ?_
 refine .i (lo1 (hlc rfl) own_b1_2 trivial agg2 sz2 rfl) ?_
 refine .i (fo 2 (hbs rfl e1) Tryz.underlying26 rfl sz9 rfl) ?_
 refine .i (lo1 (hlc rfl) own_b1_2 trivial agg9 sz9 rfl) ?_
 refine .i (fo 3 (hbs rfl e1) Tryz.underlying26 rfl sz23 rfl) ?_
 refine .i (lo1 (hlc rfl) own_b1_2 trivial agg23 sz23 rfl) ?_
 refine .da (X := Fr W2) (e := strsD (x.ns)) (sp_call1 (φ1 := IsD (SA w S [b2_2, b1_2]) (strsD (x.ns))) ent76 ((hlc rfl).dat D_cn0 sub_all) (fun g u1 W hk hgk h1 => (clone_ok (x.ns) (by omega) W _ _ h1).mono (ret_fr hk hgk))) ?_
 refine .op (φ := IsHole (fun v => .agg #[(.int .u8 (x.k)), (.int .i64 (x.n)), (.string (x.t)), v, (.slice none 0 0)]) (IsD (Fr W2) (strsD (x.ns)))) (st_hole (st_d sub_all)) (sp_build1 (vs := [(0, some (.int .u8 (x.k))), (1, some (.int .i64 (x.n))), (2, some (.string (x.t))), (3, none)]) (cells := fun v => #[(.int .u8 (x.k)), (.int .i64 (x.n)), (.string (x.t)), v, (.slice none 0 0)]) Tryz.underlying26 z26 (pl26 Tryz.underlying26) (hlc rfl) (fun _ => by simp [Op.operands]) sl_strs ⟨rfl, (hlc rfl), ⟨rfl, (hlc rfl), ⟨rfl, (hlc rfl), ⟨rfl, rfl, trivial⟩⟩⟩⟩ (fun _ _ _ => rfl)) ?_
 refine .alloc z26 ?_
 refine .dn fun a4 g W4 y4 zz4 hk hg hV hR hP => ?_
 obtain ⟨⟨b3_4, e3, hb3, own_b3_4⟩, e15, -, -, -, -, -, -, -, -, -, -⟩ := hV
 have lo_b3_4 : w.heap.size ≤ b3_4 := Nat.le_trans kw.size (hg.lo _ _ hb3)
 have ne_b2_2_b3_4 : b2_2 ≠ b3_4 := Nat.ne_of_lt (Nat.lt_of_lt_of_le own_b2_2.lt (hg.lo _ _ hb3))
 have ne_b1_2_b3_4 : b1_2 ≠ b3_4 := Nat.ne_of_lt (Nat.lt_of_lt_of_le own_b1_2.lt (hg.lo _ _ hb3))
 have own_b3_4 : Own W4 b3_4 [(.int .u8 (0)), (.int .i64 (0)), (.string (⟨#[]⟩)), (.slice none 0 0), (.slice none 0 0)] 26 := own_b3_4
 replace e2 := ft hR e2
 replace e1 := ft hR e1
 replace D_cn0 := sa_more D_cn0 hk [b3_4] (in_cons (hg.lo _ _ hb3) in_nil)
 replace D_ci0 := sa_more D_ci0 hk [b3_4] (in_cons (hg.lo _ _ hb3) in_nil)
 obtain ⟨v15_4a, v15_4n, v15_4c, ev, D_v15_4⟩ := e15
 replace D_v15_4 : Rd W4 (SF w [b3_4, b2_2, b1_2]) (strsD (x.ns)) _ := fr_end (M := [b2_2, b1_2]) D_v15_4 kw [b3_4] (in_cons ⟨_, hb3⟩ in_nil) (in_cons own_b2_2.lt (in_cons own_b1_2.lt in_nil))
 obtain ⟨xa, xc, ev2, D2⟩ := rdS_out D_v15_4
 injection ev2 with h1 h2 h3; subst h1 h2 h3; clear D2
 have e15 : sl a4 15 = (.agg #[(.int .u8 (x.k)), (.int .i64 (x.n)), (.string (x.t)), (.slice v15_4a (x.ns.length) v15_4c), (.slice none 0 0)]) := ev; clear ev
 replace own_b2_2 := own_b2_2.ext hk
 replace own_b1_2 := own_b1_2.ext hk
 replace kw := kw.x hk
 clear hR hk hg hP hb3
 refine tail_store e3 e15 sz26 rfl own_b3_4 (lbr rfl) (all_cons rfl (all_cons rfl (all_cons rfl (all_cons rfl (all_cons rfl all_nil))))) (fun W5 hs own_b3_4 => ?_)
 have own_b3_4 : Own W5 b3_4 [(.int .u8 (x.k)), (.int .i64 (x.n)), (.string (x.t)), (.slice v15_4a (x.ns.length) v15_4c), (.slice none 0 0)] 26 := own_b3_4
 replace own_b2_2 := own_store own_b2_2 hs ne_b2_2_b3_4
 replace own_b1_2 := own_store own_b1_2 hs ne_b1_2_b3_4
 replace D_cn0 := sa_store D_cn0 hs (by simp)
 replace D_ci0 := sa_store D_ci0 hs (by simp)
 replace D_v15_4 := sf_store D_v15_4 hs (by simp)
 replace kw := keeps_store kw hs lo_b3_4
 clear hs
 refine zn (hK3 _ _ ?_)
 refine zq fun K6 hK6 => ?_
 refine zq fun K7 hK7 => ?_
 refine rg mixed y4 zz4 ?_
 refine .i (fo 4 (hbs rfl e1) Tryz.underlying26 rfl sz24 rfl) ?_
 refine .i (lo1 (hlc rfl) own_b1_2 trivial agg24 sz24 rfl) ?_
 refine .i (sp_lenVs Tryz.underlying24 ((hlc rfl).dat D_ci0 sub_all)) ?_
 refine .i (sp_move Has.cst) ?_
 refine .dn fun a8 g W8 y8 zz8 hk hg hV hR hP => ?_
 obtain ⟨e19, e18, e17, -, -⟩ := hV
 replace e2 := ft hR e2
 replace e3 := ft hR e3
 replace D_cn0 := D_cn0.ext hk
 replace D_ci0 := D_ci0.ext hk
 replace D_v15_4 := D_v15_4.ext hk
 replace e17 := e17.q
 replace e18 := e18.q
 replace e19 := e19.q
 replace own_b2_2 := own_b2_2.ext hk
 replace own_b1_2 := own_b1_2.ext hk
 replace own_b3_4 := own_b3_4.ext hk
 replace kw := kw.x hk
 clear hR hk hg hP
 refine zn (hK7 _ _ ?_)
 refine wp_block ?_
 replace D_ci0 := sa_less (M' := [b3_4, b2_2]) D_ci0 (ls_keep (ls_keep ls_nil))
 replace D_v15_4 := sf_less (M' := [b3_4, b2_2]) D_v15_4 (ls_keep (ls_keep ls_nil))
 have A_ar9 : Arr W8 w.heap.size 26 5 (SF w (blks none ++ (b3_4 :: (b2_2 :: [])))) (List.map V.d ([])) (.slice none 0 0) none := arr_nil _ _ _ _ _
 replace D_ci0 : Rd W8 (SA w S (blks none ++ (b3_4 :: (b2_2 :: [])))) (valsD (x.xs)) (.slice ci0a (x.xs.length) ci0c) := D_ci0
 replace D_v15_4 : Rd W8 (SF w (blks none ++ (b3_4 :: (b2_2 :: [])))) (strsD (x.ns)) (.slice v15_4a (x.ns.length) v15_4c) := D_v15_4
 refine wp_for (x.xs.length) (fun k a W => ∃ (va4_10 : Value), ∃ (hd4_10 : Option Nat), a.tmps.size = 32 ∧ a.defers = [] ∧ Keeps All w W ∧ sl a 2 = (.pointer (some ⟨b2_2, 0, none⟩)) ∧ sl a 3 = (.pointer (some ⟨b3_4, 0, none⟩)) ∧ sl a 17 = (.slice ci0a (x.xs.length) ci0c) ∧ sl a 18 = (.int .i64 (x.xs.length)) ∧ sl a 19 = (.int .i64 ((k : Nat))) ∧ Own W b2_2 [(.int .u8 (0)), (.int .i64 (0)), (.string (⟨#[]⟩)), (.slice none 0 0), (.slice none 0 0)] 26 ∧ Own W b3_4 [(.int .u8 (x.k)), (.int .i64 (x.n)), (.string (x.t)), (.slice v15_4a (x.ns.length) v15_4c), va4_10] 26 ∧ Rd W (SA w S (blks hd4_10 ++ (b3_4 :: (b2_2 :: [])))) (valsD (x.xs)) (.slice ci0a (x.xs.length) ci0c) ∧ Rd W (SF w (blks hd4_10 ++ (b3_4 :: (b2_2 :: [])))) (strsD (x.ns)) (.slice v15_4a (x.ns.length) v15_4c) ∧ Arr W w.heap.size 26 5 (SF w (blks hd4_10 ++ (b3_4 :: (b2_2 :: [])))) (List.map V.d (x.xs.take k)) va4_10 hd4_10 ∧ b2_2 ∉ blks hd4_10 ∧ b3_4 ∉ blks hd4_10) ⟨(.slice none 0 0), none, y8, zz8, kw, e2, e3, e17, e18, (e19.trans (congrArg (Value.int .i64) (rfl))), own_b2_2, own_b3_4, D_ci0, D_v15_4, A_ar9, nb_none, nb_none⟩ ?_
 clear kw e2 e3 e17 e18 e19 own_b2_2 own_b3_4 D_ci0 D_v15_4 A_ar9
 rintro k a10 W10 hkk ⟨va4_10, hd4_10, y10, zz10, kw, e2, e3, e17, e18, e19, own_b2_2, own_b3_4, D_ci0, D_v15_4, A4_10, nb_b2_2_ar9_10, nb_b3_4_ar9_10⟩
 refine zq fun K11 hK11 => ?_
 refine rg mixed y10 zz10 ?_
 refine .i (sp_lss (hbs rfl e19) (hbs rfl e18)) ?_
 refine .dn fun a12 g W12 y12 zz12 hk hg hV hR hP => ?_
 obtain ⟨e20, -⟩ := hV
 replace e2 := ft hR e2
 replace e3 := ft hR e3
 replace e17 := ft hR e17
 replace e18 := ft hR e18
 replace e19 := ft hR e19
 replace A4_10 := A4_10.ext hk
 replace D_ci0 := D_ci0.ext hk
 replace D_v15_4 := D_v15_4.ext hk
 replace e20 := e20.q
 replace own_b2_2 := own_b2_2.ext hk
 replace own_b3_4 := own_b3_4.ext hk
 replace kw := kw.x hk
 clear hR hk hg hP
 refine zn (hK11 _ _ ?_)
 refine zq fun K13 hK13 => ?_
 refine zc e20 (fun hc => ?_) (fun hc => ?_)
 ·
  have hlt : k < x.xs.length := by simpa using hc
  have hwm := wts_mem hlt
  refine wp_skip (hK13 _ _ ?_)
  refine zq fun K14 hK14 => ?_
  refine wp_block ?_
  refine zq fun K15 hK15 => ?_
  refine rg mixed y12 zz12 ?_
  refine .rf (sp_indexV (i := k) ((hbs rfl e17).dat D_ci0 sub_all) (hbs rfl e19) Tryz.underlying24 sz26 rfl hlt) ?_
  refine .da (sp_loadV (hlc rfl) agg26 sz26) ?_
  refine .alloc z26 ?_
  refine .dn fun a16 g W16 y16 zz16 hk hg hV hR hP => ?_
  obtain ⟨⟨b5_16, e5, hb5, own_b5_16⟩, e22, -, -⟩ := hV
  have lo_b5_16 : w.heap.size ≤ b5_16 := Nat.le_trans kw.size (hg.lo _ _ hb5)
  have ne_b2_2_b5_16 : b2_2 ≠ b5_16 := Nat.ne_of_lt (Nat.lt_of_lt_of_le own_b2_2.lt (hg.lo _ _ hb5))
  have ne_b3_4_b5_16 : b3_4 ≠ b5_16 := Nat.ne_of_lt (Nat.lt_of_lt_of_le own_b3_4.lt (hg.lo _ _ hb5))
  have own_b5_16 : Own W16 b5_16 [(.int .u8 (0)), (.int .i64 (0)), (.string (⟨#[]⟩)), (.slice none 0 0), (.slice none 0 0)] 26 := own_b5_16
  replace e2 := ft hR e2
  replace e3 := ft hR e3
  replace e17 := ft hR e17
  replace e18 := ft hR e18
  replace e19 := ft hR e19
  have hMx : ∀ b ∈ (blks hd4_10 ++ (b3_4 :: (b2_2 :: []))), b < W12.heap.size := (in_app A4_10.lt (in_cons own_b3_4.lt (in_cons own_b2_2.lt in_nil)))
  have nb_b5_16_ar9 : b5_16 ∉ blks hd4_10 := nb_lt A4_10.lt (hg.lo _ _ hb5)
  replace A4_10 : Arr W16 w.heap.size 26 5 (SF w (b5_16 :: (blks hd4_10 ++ (b3_4 :: (b2_2 :: []))))) (List.map V.d (x.xs.take k)) va4_10 hd4_10 := arrF_more A4_10 hk [b5_16] (in_cons (hg.lo _ _ hb5) in_nil)
  replace D_ci0 : Rd W16 (SA w S (b5_16 :: (blks hd4_10 ++ (b3_4 :: (b2_2 :: []))))) (valsD (x.xs)) (.slice ci0a (x.xs.length) ci0c) := sa_more D_ci0 hk [b5_16] (in_cons (hg.lo _ _ hb5) in_nil)
  replace D_v15_4 : Rd W16 (SF w (b5_16 :: (blks hd4_10 ++ (b3_4 :: (b2_2 :: []))))) (strsD (x.ns)) (.slice v15_4a (x.ns.length) v15_4c) := sf_more D_v15_4 hk [b5_16] (in_cons (hg.lo _ _ hb5) in_nil)
  obtain ⟨v22_16, ev⟩ : ∃ v, sl a16 22 = v := ⟨_, rfl⟩
  rw [ev] at e22
  have D_v22_16 : Rd W16 (SA w S (b5_16 :: (blks hd4_10 ++ (b3_4 :: (b2_2 :: []))))) (V.d (x.xs[k]'hlt)) v22_16 := sa_end e22 hk [b5_16] (in_cons ⟨_, hb5⟩ in_nil)
  replace e22 := ev; clear ev
  obtain ⟨cn22_16a, cn22_16c, ci22_16a, ci22_16c, ev, ht_v22_16, D_cn22_16, D_ci22_16⟩ := rdV_out D_v22_16
  subst ev; clear D_v22_16
  replace own_b2_2 := own_b2_2.ext hk
  replace own_b3_4 := own_b3_4.ext hk
  replace kw := kw.x hk
  clear hR hk hg hP hb5
  refine tail_store e5 e22 sz26 rfl own_b5_16 (lbr rfl) (all_cons rfl (all_cons rfl (all_cons rfl (all_cons rfl (all_cons rfl all_nil))))) (fun W17 hs own_b5_16 => ?_)
  have own_b5_16 : Own W17 b5_16 [(.int .u8 ((x.xs[k]'hlt).k)), (.int .i64 ((x.xs[k]'hlt).n)), (.string ((x.xs[k]'hlt).t)), (.slice cn22_16a (((x.xs[k]'hlt).ns).length) cn22_16c), (.slice ci22_16a (((x.xs[k]'hlt).xs).length) ci22_16c)] 26 := own_b5_16
  replace own_b2_2 := own_store own_b2_2 hs ne_b2_2_b5_16
  replace own_b3_4 := own_store own_b3_4 hs ne_b3_4_b5_16
  replace D_ci0 := sa_store D_ci0 hs (by simp)
  replace D_v15_4 := sf_store D_v15_4 hs (by simp)
  replace D_cn22_16 := sa_store D_cn22_16 hs (by simp)
  replace D_ci22_16 := sa_store D_ci22_16 hs (by simp)
  replace A4_10 := arrF_store A4_10 hs (by simp) nb_b5_16_ar9
  replace kw := keeps_store kw hs lo_b5_16
  clear hs
  refine zn (hK15 _ _ ?_)
  refine wp_reg (fun k => k ∉ blks hd4_10) (Ψ := fun W => Arr W w.heap.size 26 5 (SF w (b5_16 :: (blks hd4_10 ++ (b3_4 :: (b2_2 :: []))))) (List.map V.d (x.xs.take k)) va4_10 hd4_10) mixed y16 zz16 (fun W W' k h => h.ext k) A4_10 ?_
  refine .i (fo 4 (hbs rfl e3) Tryz.underlying26 rfl sz24 rfl) ?_
  refine .i (lo1 (hlc rfl) own_b3_4 nb_b3_4_ar9_10 agg24 sz24 rfl) ?_
  refine .i (v := (.agg #[(.int .u8 ((x.xs[k]'hlt).k)), (.int .i64 ((x.xs[k]'hlt).n)), (.string ((x.xs[k]'hlt).t)), (.slice cn22_16a (((x.xs[k]'hlt).ns).length) cn22_16c), (.slice ci22_16a (((x.xs[k]'hlt).xs).length) ci22_16c)])) (loA (hbs rfl e5) own_b5_16 nb_b5_16_ar9 agg26 sz26 rfl rfl) ?_
  refine .op (φ := IsD (Fr W17) (V.d ((x.xs[k]'hlt)))) (st_d (sub_frnb (fun b hb => A4_10.lt b hb))) (sp_call1 (φ1 := IsD (SA w S (b5_16 :: (blks hd4_10 ++ (b3_4 :: (b2_2 :: []))))) (V.d ((x.xs[k]'hlt)))) ent77 ((hlc rfl).dat (rdV_in (x := (x.xs[k]'hlt)) ht_v22_16 D_cn22_16 D_ci22_16 : Rd W17 (SA w S (b5_16 :: (blks hd4_10 ++ (b3_4 :: (b2_2 :: []))))) (V.d ((x.xs[k]'hlt))) _) (sub_nb (fun b hb => List.mem_cons_of_mem _ (List.mem_append_left _ hb)))) (fun g u1 W hk hgk h1 => (ih ((x.xs[k]'hlt)) (by omega) (by omega) W _ _ h1).mono (ret_fr hk hgk))) ?_
  refine .op (φ := IsD (SF w (b5_16 :: (blks hd4_10 ++ (b3_4 :: (b2_2 :: []))))) (valsD ([(x.xs[k]'hlt)]))) (st_d (sub_nbF (fun b hb => List.mem_cons_of_mem _ (List.mem_append_left _ hb)))) (sp_bsl (ds := [V.d ((x.xs[k]'hlt))]) Tryz.underlying24 sz26 z26 (lbr rfl) (lbr rfl) ⟨rfl, ((hlc rfl).sup (fr_sf kw (in_cons own_b5_16.lt (in_app A4_10.lt (in_cons own_b3_4.lt (in_cons own_b2_2.lt in_nil)))))), trivial⟩ rfl (by intro e he; simp at he; rcases he with rfl <;> exact width_V _) (fr_sf kw (in_cons own_b5_16.lt (in_app A4_10.lt (in_cons own_b3_4.lt (in_cons own_b2_2.lt in_nil)))))) ?_
  refine .appB (ds := List.map V.d (x.xs.take k)) (es := [V.d ((x.xs[k]'hlt))]) (X := SF w (b5_16 :: (blks hd4_10 ++ (b3_4 :: (b2_2 :: []))))) Tryz.underlying24 inf26 (lbr rfl) (hlc rfl) (hlc rfl) (sub_nbF (fun b hb => List.mem_cons_of_mem _ (List.mem_append_left _ hb))) (by simp [maxLen]; omega) (by simp; omega) kw.size ?_
  refine .i (fo 4 (hbs rfl e3) Tryz.underlying26 rfl sz24 rfl) ?_
  refine .dn fun a18 g W18 y18 zz18 hk hg hV hR hP => ?_
  obtain ⟨e29, e28, -, -, -, -, -, -⟩ := hV
  replace e2 := ft hR e2
  replace e3 := ft hR e3
  replace e17 := ft hR e17
  replace e18 := ft hR e18
  replace e19 := ft hR e19
  obtain ⟨v28_18, ev⟩ : ∃ v, sl a18 28 = v := ⟨_, rfl⟩
  rw [ev] at e28
  obtain ⟨hd28_18, A_28_18, hf28_18⟩ := e28
  have e28 := ev; clear ev
  obtain ⟨v28_18a, v28_18n, v28_18c, ev⟩ := arr_sl A_28_18; subst ev
  replace A_28_18 := arrF_new (M' := (b5_16 :: (blks hd28_18 ++ (b3_4 :: (b2_2 :: []))))) A_28_18 (rep_cons (rep_app (rep_q fun _ h => h) (rep_cons (rep_cons rep_nil))))
  replace A_28_18 : Arr W18 w.heap.size 26 5 (SF w (b5_16 :: (blks hd28_18 ++ (b3_4 :: (b2_2 :: []))))) (List.map V.d ((x.xs.take k) ++ [(x.xs[k]'hlt)])) (.slice v28_18a v28_18n v28_18c) hd28_18 := by first | exact A_28_18 | (rw [List.map_append]; exact A_28_18)
  have nb_b2_2_18 : b2_2 ∉ blks hd28_18 := nb_new nb_b2_2_ar9_10 own_b2_2.lt hf28_18
  have nb_b3_4_18 : b3_4 ∉ blks hd28_18 := nb_new nb_b3_4_ar9_10 own_b3_4.lt hf28_18
  have nb_b5_16_18 : b5_16 ∉ blks hd28_18 := nb_new nb_b5_16_ar9 own_b5_16.lt hf28_18
  replace D_ci0 := sa_app (M' := (b5_16 :: (blks hd28_18 ++ (b3_4 :: (b2_2 :: []))))) D_ci0 hk (fun b hb => List.mem_cons_of_mem _ (List.mem_append_left _ hb)) (rep_cons (rep_app hf28_18 (rep_cons (rep_cons rep_nil))))
  replace D_v15_4 := sf_app (M' := (b5_16 :: (blks hd28_18 ++ (b3_4 :: (b2_2 :: []))))) D_v15_4 hk (fun b hb => List.mem_cons_of_mem _ (List.mem_append_left _ hb)) (rep_cons (rep_app hf28_18 (rep_cons (rep_cons rep_nil))))
  replace D_cn22_16 := sa_app (M' := (b5_16 :: (blks hd28_18 ++ (b3_4 :: (b2_2 :: []))))) D_cn22_16 hk (fun b hb => List.mem_cons_of_mem _ (List.mem_append_left _ hb)) (rep_cons (rep_app hf28_18 (rep_cons (rep_cons rep_nil))))
  replace D_ci22_16 := sa_app (M' := (b5_16 :: (blks hd28_18 ++ (b3_4 :: (b2_2 :: []))))) D_ci22_16 hk (fun b hb => List.mem_cons_of_mem _ (List.mem_append_left _ hb)) (rep_cons (rep_app hf28_18 (rep_cons (rep_cons rep_nil))))
  replace own_b2_2 := own_app own_b2_2 hk nb_b2_2_ar9_10
  replace own_b3_4 := own_app own_b3_4 hk nb_b3_4_ar9_10
  replace own_b5_16 := own_app own_b5_16 hk nb_b5_16_ar9
  replace kw := keeps_app kw hk A4_10.ge
  have e29 : sl a18 29 = (.pointer (some ⟨b3_4, 4, none⟩)) := e29
  clear hR hk hg hP hf28_18 A4_10
  refine tail_store e29 e28 sz24 rfl own_b3_4 (lbr rfl) (all_cons rfl all_nil) (fun W19 hs own_b3_4 => ?_)
  have own_b3_4 : Own W19 b3_4 [(.int .u8 (x.k)), (.int .i64 (x.n)), (.string (x.t)), (.slice v15_4a (x.ns.length) v15_4c), (.slice v28_18a v28_18n v28_18c)] 26 := own_b3_4
  replace own_b2_2 := own_store own_b2_2 hs ne_b2_2_b3_4
  replace own_b5_16 := own_store own_b5_16 hs ne_b3_4_b5_16.symm
  replace D_ci0 := sa_store D_ci0 hs (by simp)
  replace D_v15_4 := sf_store D_v15_4 hs (by simp)
  replace D_cn22_16 := sa_store D_cn22_16 hs (by simp)
  replace D_ci22_16 := sa_store D_ci22_16 hs (by simp)
  replace A_28_18 := arrF_store A_28_18 hs (by simp) nb_b3_4_18
  replace kw := keeps_store kw hs lo_b3_4
  clear hs
  refine zn (hK14 _ _ ?_)
  refine rg mixed y18 zz18 ?_
  refine .i (sp_add (hbs rfl e19) Has.cst (i64_in (by omega))) ?_
  refine .i (sp_move (hlc rfl)) ?_
  refine .dn fun a20 g W20 y20 zz20 hk hg hV hR hP => ?_
  obtain ⟨e19, -, -⟩ := hV
  replace e2 := ft hR e2
  replace e3 := ft hR e3
  replace e17 := ft hR e17
  replace e18 := ft hR e18
  replace A_28_18 := A_28_18.ext hk
  replace D_ci0 := D_ci0.ext hk
  replace D_v15_4 := D_v15_4.ext hk
  replace e19 := e19.q
  replace own_b2_2 := own_b2_2.ext hk
  replace own_b3_4 := own_b3_4.ext hk
  replace own_b5_16 := own_b5_16.ext hk
  replace kw := kw.x hk
  clear hR hk hg hP
  rw [show (x.xs.take k) ++ [(x.xs[k]'hlt)] = x.xs.take (k + 1) by rw [List.take_succ_eq_append_getElem hlt]] at A_28_18
  exact tail_nil ⟨hlt, (.slice v28_18a v28_18n v28_18c), hd28_18, y20, zz20, kw, e2, e3, e17, e18, (e19.trans (congrArg (Value.int .i64) (by simp))), own_b2_2, own_b3_4, (sa_less D_ci0 (ls_skip (ls_keepA (ls_keep (ls_keep ls_nil))))), (sf_less D_v15_4 (ls_skip (ls_keepA (ls_keep (ls_keep ls_nil))))), (arrF_less A_28_18 (ls_skip (ls_keepA (ls_keep (ls_keep ls_nil))))), nb_b2_2_18, nb_b3_4_18⟩
 have hge0 : ¬ k < x.xs.length := by simpa using hc
 have hge : k = x.xs.length := by omega
 rw [show x.xs.take k = x.xs by rw [hge, List.take_length]] at A4_10
 have D_va4_10 : Rd W12 (SF w [b3_4, b2_2]) (valsD (x.xs)) va4_10 := arrF_rd A4_10 (ls_skipA (ls_keep (ls_keep ls_nil))) (nin_cons nb_b3_4_ar9_10 (nin_cons nb_b2_2_ar9_10 nin_nil))
 obtain ⟨va4_10a, va4_10c, ev, D2⟩ := rdVs_out D_va4_10
 subst ev; replace D_va4_10 := D2; clear D2
 replace D_ci0 := sa_less (M' := [b3_4, b2_2]) D_ci0 (ls_skipA (ls_keep (ls_keep ls_nil)))
 replace D_v15_4 := sf_less (M' := [b3_4, b2_2]) D_v15_4 (ls_skipA (ls_keep (ls_keep ls_nil)))
 refine wp_exit (hK6 _ _ ?_)
 refine zq fun K21 hK21 => ?_
 refine rg mixed y12 zz12 ?_
 refine .i (v := (.agg #[(.int .u8 (x.k)), (.int .i64 (x.n)), (.string (x.t)), (.slice v15_4a (x.ns.length) v15_4c), (.slice va4_10a (x.xs.length) va4_10c)])) (loA (hbs rfl e3) own_b3_4 trivial agg26 sz26 rfl rfl) ?_
 refine .dn fun a22 g W22 y22 zz22 hk hg hV hR hP => ?_
 obtain ⟨e31, -⟩ := hV
 replace e2 := ft hR e2
 replace D_ci0 := D_ci0.ext hk
 replace D_v15_4 := D_v15_4.ext hk
 replace D_va4_10 := D_va4_10.ext hk
 replace e31 := e31.q
 replace own_b2_2 := own_b2_2.ext hk
 replace own_b3_4 := own_b3_4.ext hk
 replace kw := kw.x hk
 clear hR hk hg hP
 refine tail_store e2 e31 sz26 rfl own_b2_2 (lbr rfl) (all_cons rfl (all_cons rfl (all_cons rfl (all_cons rfl (all_cons rfl all_nil))))) (fun W23 hs own_b2_2 => ?_)
 have own_b2_2 : Own W23 b2_2 [(.int .u8 (x.k)), (.int .i64 (x.n)), (.string (x.t)), (.slice v15_4a (x.ns.length) v15_4c), (.slice va4_10a (x.xs.length) va4_10c)] 26 := own_b2_2
 replace own_b3_4 := own_store own_b3_4 hs ne_b2_2_b3_4.symm
 replace D_ci0 := sa_store D_ci0 hs (by simp)
 replace D_v15_4 := sf_store D_v15_4 hs (by simp)
 replace D_va4_10 := sf_store D_va4_10 hs (by simp)
 replace kw := keeps_store kw hs lo_b2_2
 clear hs
 refine zn (hK21 _ _ ?_)
 refine wp_ret ?_
 refine retC (v := (.agg #[(.int .u8 (x.k)), (.int .i64 (x.n)), (.string (x.t)), (.slice v15_4a (x.ns.length) v15_4c), (.slice va4_10a (x.xs.length) va4_10c)])) rfl zz22 e2 own_b2_2 agg26 sz26 rfl (fun h => by cases h) rfl ⟨_, rfl, kw, ?_⟩
 exact sf_fr (rdV_in (x := x) ht0 D_v15_4 D_va4_10 : Rd W23 (SF w [b3_4, b2_2]) (V.d (x)) _)
set_option maxRecDepth 100000 in
theorem Copy_ok (x : V) (hx : x.wt ≤ 1073741824) (w : World) (S : BSet) (v : Value) (hS : ∀ b o, S b o → Cln o) (hv : Rd w S x.d v) : Calls Tryz.prog 56 #[v] w (Ret w fun u W => Rd W (Fr w) x.d u) := by
 have hwx := wt_eq x
 have hwl := wts_len x.xs
 have hwn := wtN_len x.ns
 obtain ⟨cn0a, cn0c, ci0a, ci0c, ev, ht0, D_cn0, D_ci0⟩ := rdV_out (rd_arg hv)
 subst ev
 refine enter Tryz.func56 rfl Tryz.ntmps56 (lbr rfl) fun a0 y0 zz0 harg => ?_
 have e0 : sl a0 0 = (.agg #[(.int .u8 (x.k)), (.int .i64 (x.n)), (.string (x.t)), (.slice cn0a (x.ns.length) cn0c), (.slice ci0a (x.xs.length) ci0c)]) := harg 0 (lbr rfl)
 have kw := Keeps.refl All w
 clear harg
 refine zq fun K1 hK1 => ?_
 refine rg mixed y0 zz0 ?_
 refine .boxOp (v := (.agg #[(.int .u8 (x.k)), (.int .i64 (x.n)), (.string (x.t)), (.slice cn0a (x.ns.length) cn0c), (.slice ci0a (x.xs.length) ci0c)])) (hbs rfl e0) ?_
 refine .alloc z26 ?_
 refine .dn fun a2 g W2 y2 zz2 hk hg hV hR hP => ?_
 obtain ⟨⟨b2_2, e2, hb2, own_b2_2⟩, ⟨b1_2, e1, hb1, own_b1_2⟩, -⟩ := hV
 have lo_b2_2 : w.heap.size ≤ b2_2 := Nat.le_trans kw.size (hg.lo _ _ hb2)
 have own_b2_2 : Own W2 b2_2 [(.int .u8 (0)), (.int .i64 (0)), (.string (⟨#[]⟩)), (.slice none 0 0), (.slice none 0 0)] 26 := own_b2_2
 have lo_b1_2 : w.heap.size ≤ b1_2 := Nat.le_trans kw.size (hg.lo _ _ hb1)
 have own_b1_2 : Own W2 b1_2 [(.int .u8 (x.k)), (.int .i64 (x.n)), (.string (x.t)), (.slice cn0a (x.ns.length) cn0c), (.slice ci0a (x.xs.length) ci0c)] 26 := own_b1_2
 have ne_b2_2_b1_2 : b2_2 ≠ b1_2 := fun h => by have := hg.inj _ _ _ hb2 (h ▸ hb1); cases this
 replace D_cn0 := sa_more D_cn0 hk [b2_2, b1_2] (in_cons (hg.lo _ _ hb2) (in_cons (hg.lo _ _ hb1) in_nil))
 replace D_ci0 := sa_more D_ci0 hk [b2_2, b1_2] (in_cons (hg.lo _ _ hb2) (in_cons (hg.lo _ _ hb1) in_nil))
 replace kw := kw.x hk
 clear hR hk hg hP hb2 hb1
 refine zn (hK1 _ _ ?_)
 refine zq fun K3 hK3 => ?_
 refine rg mixed y2 zz2 ?_
 refine .i (fo 0 (hbs rfl e1) Tryz.underlying26 rfl sz5 rfl) ?_
 refine .i (lo1 (hlc rfl) own_b1_2 trivial agg5 sz5 rfl) ?_
 refine .i (fo 1 (hbs rfl e1) Tryz.underlying26 rfl sz2 rfl) ?_
 refine .i (lo1 (hlc rfl) own_b1_2 trivial agg2 sz2 rfl) ?_
 refine .i (fo 2 (hbs rfl e1) Tryz.underlying26 rfl sz9 rfl) ?_
 refine .i (lo1 (hlc rfl) own_b1_2 trivial agg9 sz9 rfl) ?_
 refine .i (fo 3 (hbs rfl e1) Tryz.underlying26 rfl sz23 rfl) ?_
 refine .i (lo1 (hlc rfl) own_b1_2 trivial agg23 sz23 rfl) ?_
 refine .da (X := Fr W2) (e := strsD (x.ns)) (sp_call1 (φ1 := IsD (SA w S [b2_2, b1_2]) (strsD (x.ns))) ent76 ((hlc rfl).dat D_cn0 sub_all) (fun g u1 W hk hgk h1 => (clone_ok (x.ns) (by omega) W _ _ h1).mono (ret_fr hk hgk))) ?_
 refine .op (φ := IsHole (fun v => .agg #[(.int .u8 (x.k)), (.int .i64 (x.n)), (.string (x.t)), v, (.slice none 0 0)]) (IsD (Fr W2) (strsD (x.ns)))) (st_hole (st_d sub_all)) (sp_build1 (vs := [(0, some (.int .u8 (x.k))), (1, some (.int .i64 (x.n))), (2, some (.string (x.t))), (3, none)]) (cells := fun v => #[(.int .u8 (x.k)), (.int .i64 (x.n)), (.string (x.t)), v, (.slice none 0 0)]) Tryz.underlying26 z26 (pl26 Tryz.underlying26) (hlc rfl) (fun _ => by simp [Op.operands]) sl_strs ⟨rfl, (hlc rfl), ⟨rfl, (hlc rfl), ⟨rfl, (hlc rfl), ⟨rfl, rfl, trivial⟩⟩⟩⟩ (fun _ _ _ => rfl)) ?_
 refine .alloc z26 ?_
 refine .dn fun a4 g W4 y4 zz4 hk hg hV hR hP => ?_
 obtain ⟨⟨b3_4, e3, hb3, own_b3_4⟩, e15, -, -, -, -, -, -, -, -, -, -⟩ := hV
 have lo_b3_4 : w.heap.size ≤ b3_4 := Nat.le_trans kw.size (hg.lo _ _ hb3)
 have ne_b2_2_b3_4 : b2_2 ≠ b3_4 := Nat.ne_of_lt (Nat.lt_of_lt_of_le own_b2_2.lt (hg.lo _ _ hb3))
 have ne_b1_2_b3_4 : b1_2 ≠ b3_4 := Nat.ne_of_lt (Nat.lt_of_lt_of_le own_b1_2.lt (hg.lo _ _ hb3))
 have own_b3_4 : Own W4 b3_4 [(.int .u8 (0)), (.int .i64 (0)), (.string (⟨#[]⟩)), (.slice none 0 0), (.slice none 0 0)] 26 := own_b3_4
 replace e2 := ft hR e2
 replace e1 := ft hR e1
 replace D_cn0 := sa_more D_cn0 hk [b3_4] (in_cons (hg.lo _ _ hb3) in_nil)
 replace D_ci0 := sa_more D_ci0 hk [b3_4] (in_cons (hg.lo _ _ hb3) in_nil)
 obtain ⟨v15_4a, v15_4n, v15_4c, ev, D_v15_4⟩ := e15
 replace D_v15_4 : Rd W4 (SF w [b3_4, b2_2, b1_2]) (strsD (x.ns)) _ := fr_end (M := [b2_2, b1_2]) D_v15_4 kw [b3_4] (in_cons ⟨_, hb3⟩ in_nil) (in_cons own_b2_2.lt (in_cons own_b1_2.lt in_nil))
 obtain ⟨xa, xc, ev2, D2⟩ := rdS_out D_v15_4
 injection ev2 with h1 h2 h3; subst h1 h2 h3; clear D2
 have e15 : sl a4 15 = (.agg #[(.int .u8 (x.k)), (.int .i64 (x.n)), (.string (x.t)), (.slice v15_4a (x.ns.length) v15_4c), (.slice none 0 0)]) := ev; clear ev
 replace own_b2_2 := own_b2_2.ext hk
 replace own_b1_2 := own_b1_2.ext hk
 replace kw := kw.x hk
 clear hR hk hg hP hb3
 refine tail_store e3 e15 sz26 rfl own_b3_4 (lbr rfl) (all_cons rfl (all_cons rfl (all_cons rfl (all_cons rfl (all_cons rfl all_nil))))) (fun W5 hs own_b3_4 => ?_)
 have own_b3_4 : Own W5 b3_4 [(.int .u8 (x.k)), (.int .i64 (x.n)), (.string (x.t)), (.slice v15_4a (x.ns.length) v15_4c), (.slice none 0 0)] 26 := own_b3_4
 replace own_b2_2 := own_store own_b2_2 hs ne_b2_2_b3_4
 replace own_b1_2 := own_store own_b1_2 hs ne_b1_2_b3_4
 replace D_cn0 := sa_store D_cn0 hs (by simp)
 replace D_ci0 := sa_store D_ci0 hs (by simp)
 replace D_v15_4 := sf_store D_v15_4 hs (by simp)
 replace kw := keeps_store kw hs lo_b3_4
 clear hs
 refine zn (hK3 _ _ ?_)
 refine zq fun K6 hK6 => ?_
 refine zq fun K7 hK7 => ?_
 refine rg mixed y4 zz4 ?_
 refine .i (fo 4 (hbs rfl e1) Tryz.underlying26 rfl sz24 rfl) ?_
 refine .i (lo1 (hlc rfl) own_b1_2 trivial agg24 sz24 rfl) ?_
 refine .i (sp_lenVs Tryz.underlying24 ((hlc rfl).dat D_ci0 sub_all)) ?_
 refine .i (sp_move Has.cst) ?_
 refine .dn fun a8 g W8 y8 zz8 hk hg hV hR hP => ?_
 obtain ⟨e19, e18, e17, -, -⟩ := hV
 replace e2 := ft hR e2
 replace e3 := ft hR e3
 replace D_cn0 := D_cn0.ext hk
 replace D_ci0 := D_ci0.ext hk
 replace D_v15_4 := D_v15_4.ext hk
 replace e17 := e17.q
 replace e18 := e18.q
 replace e19 := e19.q
 replace own_b2_2 := own_b2_2.ext hk
 replace own_b1_2 := own_b1_2.ext hk
 replace own_b3_4 := own_b3_4.ext hk
 replace kw := kw.x hk
 clear hR hk hg hP
 refine zn (hK7 _ _ ?_)
 refine wp_block ?_
 replace D_ci0 := sa_less (M' := [b3_4, b2_2]) D_ci0 (ls_keep (ls_keep ls_nil))
 replace D_v15_4 := sf_less (M' := [b3_4, b2_2]) D_v15_4 (ls_keep (ls_keep ls_nil))
 have A_ar9 : Arr W8 w.heap.size 26 5 (SF w (blks none ++ (b3_4 :: (b2_2 :: [])))) (List.map V.d ([])) (.slice none 0 0) none := arr_nil _ _ _ _ _
 replace D_ci0 : Rd W8 (SA w S (blks none ++ (b3_4 :: (b2_2 :: [])))) (valsD (x.xs)) (.slice ci0a (x.xs.length) ci0c) := D_ci0
 replace D_v15_4 : Rd W8 (SF w (blks none ++ (b3_4 :: (b2_2 :: [])))) (strsD (x.ns)) (.slice v15_4a (x.ns.length) v15_4c) := D_v15_4
 refine wp_for (x.xs.length) (fun k a W => ∃ (va4_10 : Value), ∃ (hd4_10 : Option Nat), a.tmps.size = 36 ∧ a.defers = [] ∧ Keeps All w W ∧ sl a 2 = (.pointer (some ⟨b2_2, 0, none⟩)) ∧ sl a 3 = (.pointer (some ⟨b3_4, 0, none⟩)) ∧ sl a 17 = (.slice ci0a (x.xs.length) ci0c) ∧ sl a 18 = (.int .i64 (x.xs.length)) ∧ sl a 19 = (.int .i64 ((k : Nat))) ∧ Own W b2_2 [(.int .u8 (0)), (.int .i64 (0)), (.string (⟨#[]⟩)), (.slice none 0 0), (.slice none 0 0)] 26 ∧ Own W b3_4 [(.int .u8 (x.k)), (.int .i64 (x.n)), (.string (x.t)), (.slice v15_4a (x.ns.length) v15_4c), va4_10] 26 ∧ Rd W (SA w S (blks hd4_10 ++ (b3_4 :: (b2_2 :: [])))) (valsD (x.xs)) (.slice ci0a (x.xs.length) ci0c) ∧ Rd W (SF w (blks hd4_10 ++ (b3_4 :: (b2_2 :: [])))) (strsD (x.ns)) (.slice v15_4a (x.ns.length) v15_4c) ∧ Arr W w.heap.size 26 5 (SF w (blks hd4_10 ++ (b3_4 :: (b2_2 :: [])))) (List.map V.d (x.xs.take k)) va4_10 hd4_10 ∧ b2_2 ∉ blks hd4_10 ∧ b3_4 ∉ blks hd4_10) ⟨(.slice none 0 0), none, y8, zz8, kw, e2, e3, e17, e18, (e19.trans (congrArg (Value.int .i64) (rfl))), own_b2_2, own_b3_4, D_ci0, D_v15_4, A_ar9, nb_none, nb_none⟩ ?_
 clear kw e2 e3 e17 e18 e19 own_b2_2 own_b3_4 D_ci0 D_v15_4 A_ar9
 rintro k a10 W10 hkk ⟨va4_10, hd4_10, y10, zz10, kw, e2, e3, e17, e18, e19, own_b2_2, own_b3_4, D_ci0, D_v15_4, A4_10, nb_b2_2_ar9_10, nb_b3_4_ar9_10⟩
 refine zq fun K11 hK11 => ?_
 refine rg mixed y10 zz10 ?_
 refine .i (sp_lss (hbs rfl e19) (hbs rfl e18)) ?_
 refine .dn fun a12 g W12 y12 zz12 hk hg hV hR hP => ?_
 obtain ⟨e20, -⟩ := hV
 replace e2 := ft hR e2
 replace e3 := ft hR e3
 replace e17 := ft hR e17
 replace e18 := ft hR e18
 replace e19 := ft hR e19
 replace A4_10 := A4_10.ext hk
 replace D_ci0 := D_ci0.ext hk
 replace D_v15_4 := D_v15_4.ext hk
 replace e20 := e20.q
 replace own_b2_2 := own_b2_2.ext hk
 replace own_b3_4 := own_b3_4.ext hk
 replace kw := kw.x hk
 clear hR hk hg hP
 refine zn (hK11 _ _ ?_)
 refine zq fun K13 hK13 => ?_
 refine zc e20 (fun hc => ?_) (fun hc => ?_)
 ·
  have hlt : k < x.xs.length := by simpa using hc
  have hwm := wts_mem hlt
  have hwc := cnts_wts (x.xs[k]).xs
  have hwe := wt_eq x.xs[k]
  refine wp_skip (hK13 _ _ ?_)
  refine zq fun K14 hK14 => ?_
  refine wp_block ?_
  refine zq fun K15 hK15 => ?_
  refine rg mixed y12 zz12 ?_
  refine .rf (sp_indexV (i := k) ((hbs rfl e17).dat D_ci0 sub_all) (hbs rfl e19) Tryz.underlying24 sz26 rfl hlt) ?_
  refine .da (sp_loadV (hlc rfl) agg26 sz26) ?_
  refine .alloc z26 ?_
  refine .dn fun a16 g W16 y16 zz16 hk hg hV hR hP => ?_
  obtain ⟨⟨b5_16, e5, hb5, own_b5_16⟩, e22, -, -⟩ := hV
  have lo_b5_16 : w.heap.size ≤ b5_16 := Nat.le_trans kw.size (hg.lo _ _ hb5)
  have ne_b2_2_b5_16 : b2_2 ≠ b5_16 := Nat.ne_of_lt (Nat.lt_of_lt_of_le own_b2_2.lt (hg.lo _ _ hb5))
  have ne_b3_4_b5_16 : b3_4 ≠ b5_16 := Nat.ne_of_lt (Nat.lt_of_lt_of_le own_b3_4.lt (hg.lo _ _ hb5))
  have own_b5_16 : Own W16 b5_16 [(.int .u8 (0)), (.int .i64 (0)), (.string (⟨#[]⟩)), (.slice none 0 0), (.slice none 0 0)] 26 := own_b5_16
  replace e2 := ft hR e2
  replace e3 := ft hR e3
  replace e17 := ft hR e17
  replace e18 := ft hR e18
  replace e19 := ft hR e19
  have hMx : ∀ b ∈ (blks hd4_10 ++ (b3_4 :: (b2_2 :: []))), b < W12.heap.size := (in_app A4_10.lt (in_cons own_b3_4.lt (in_cons own_b2_2.lt in_nil)))
  have nb_b5_16_ar9 : b5_16 ∉ blks hd4_10 := nb_lt A4_10.lt (hg.lo _ _ hb5)
  replace A4_10 : Arr W16 w.heap.size 26 5 (SF w (b5_16 :: (blks hd4_10 ++ (b3_4 :: (b2_2 :: []))))) (List.map V.d (x.xs.take k)) va4_10 hd4_10 := arrF_more A4_10 hk [b5_16] (in_cons (hg.lo _ _ hb5) in_nil)
  replace D_ci0 : Rd W16 (SA w S (b5_16 :: (blks hd4_10 ++ (b3_4 :: (b2_2 :: []))))) (valsD (x.xs)) (.slice ci0a (x.xs.length) ci0c) := sa_more D_ci0 hk [b5_16] (in_cons (hg.lo _ _ hb5) in_nil)
  replace D_v15_4 : Rd W16 (SF w (b5_16 :: (blks hd4_10 ++ (b3_4 :: (b2_2 :: []))))) (strsD (x.ns)) (.slice v15_4a (x.ns.length) v15_4c) := sf_more D_v15_4 hk [b5_16] (in_cons (hg.lo _ _ hb5) in_nil)
  obtain ⟨v22_16, ev⟩ : ∃ v, sl a16 22 = v := ⟨_, rfl⟩
  rw [ev] at e22
  have D_v22_16 : Rd W16 (SA w S (b5_16 :: (blks hd4_10 ++ (b3_4 :: (b2_2 :: []))))) (V.d (x.xs[k]'hlt)) v22_16 := sa_end e22 hk [b5_16] (in_cons ⟨_, hb5⟩ in_nil)
  replace e22 := ev; clear ev
  obtain ⟨cn22_16a, cn22_16c, ci22_16a, ci22_16c, ev, ht_v22_16, D_cn22_16, D_ci22_16⟩ := rdV_out D_v22_16
  subst ev; clear D_v22_16
  replace own_b2_2 := own_b2_2.ext hk
  replace own_b3_4 := own_b3_4.ext hk
  replace kw := kw.x hk
  clear hR hk hg hP hb5
  refine tail_store e5 e22 sz26 rfl own_b5_16 (lbr rfl) (all_cons rfl (all_cons rfl (all_cons rfl (all_cons rfl (all_cons rfl all_nil))))) (fun W17 hs own_b5_16 => ?_)
  have own_b5_16 : Own W17 b5_16 [(.int .u8 ((x.xs[k]'hlt).k)), (.int .i64 ((x.xs[k]'hlt).n)), (.string ((x.xs[k]'hlt).t)), (.slice cn22_16a (((x.xs[k]'hlt).ns).length) cn22_16c), (.slice ci22_16a (((x.xs[k]'hlt).xs).length) ci22_16c)] 26 := own_b5_16
  replace own_b2_2 := own_store own_b2_2 hs ne_b2_2_b5_16
  replace own_b3_4 := own_store own_b3_4 hs ne_b3_4_b5_16
  replace D_ci0 := sa_store D_ci0 hs (by simp)
  replace D_v15_4 := sf_store D_v15_4 hs (by simp)
  replace D_cn22_16 := sa_store D_cn22_16 hs (by simp)
  replace D_ci22_16 := sa_store D_ci22_16 hs (by simp)
  replace A4_10 := arrF_store A4_10 hs (by simp) nb_b5_16_ar9
  replace kw := keeps_store kw hs lo_b5_16
  clear hs
  refine zn (hK15 _ _ ?_)
  refine zq fun K18 hK18 => ?_
  refine zq fun K19 hK19 => ?_
  refine rg mixed y16 zz16 ?_
  refine .i (fo 4 (hbs rfl e5) Tryz.underlying26 rfl sz24 rfl) ?_
  refine .i (lo1 (hlc rfl) own_b5_16 trivial agg24 sz24 rfl) ?_
  refine .i (v := (.bool (false))) (sp_call4 (φ1 := IsD (SA w S (b5_16 :: (blks hd4_10 ++ (b3_4 :: (b2_2 :: []))))) (valsD ((x.xs[k]'hlt).xs))) (φ2 := Is (.int .i64 (1))) (φ3 := Is (.pointer none)) (φ4 := Is (.bool (false))) ent65 ((hlc rfl).dat D_ci22_16 sub_all) Has.cst Has.cst Has.cst (fun g u1 u2 u3 u4 W hk hgk h1 h2 h3 h4 => by have h2 : u2 = _ := h2; subst u2; have h3 : u3 = _ := h3; subst u3; have h4 : u4 = _ := h4; subst u4; exact endless_all _ ((x.xs[k]'hlt).xs) (Nat.lt_succ_self _) (1) (by omega) (by omega) (false) _ W _ _ (fun b o h => sa_cln hS b o h.1) h1 (Or.inl rfl))) ?_
  refine .dn fun a20 g W20 y20 zz20 hk hg hV hR hP => ?_
  obtain ⟨e25, -, -, -⟩ := hV
  replace e2 := ft hR e2
  replace e3 := ft hR e3
  replace e17 := ft hR e17
  replace e18 := ft hR e18
  replace e19 := ft hR e19
  replace e5 := ft hR e5
  replace A4_10 := A4_10.ext hk
  replace D_ci0 := D_ci0.ext hk
  replace D_v15_4 := D_v15_4.ext hk
  replace D_cn22_16 := D_cn22_16.ext hk
  replace D_ci22_16 := D_ci22_16.ext hk
  replace e25 := e25.q
  replace own_b2_2 := own_b2_2.ext hk
  replace own_b3_4 := own_b3_4.ext hk
  replace own_b5_16 := own_b5_16.ext hk
  replace kw := kw.x hk
  clear hR hk hg hP
  refine zn (hK19 _ _ ?_)
  refine wp_cond_false e25 ?_
  refine wp_skip (hK18 _ _ ?_)
  refine wp_reg (fun k => k ∉ blks hd4_10) (Ψ := fun W => Arr W w.heap.size 26 5 (SF w (b5_16 :: (blks hd4_10 ++ (b3_4 :: (b2_2 :: []))))) (List.map V.d (x.xs.take k)) va4_10 hd4_10) mixed y20 zz20 (fun W W' k h => h.ext k) A4_10 ?_
  refine .i (fo 4 (hbs rfl e3) Tryz.underlying26 rfl sz24 rfl) ?_
  refine .i (lo1 (hlc rfl) own_b3_4 nb_b3_4_ar9_10 agg24 sz24 rfl) ?_
  refine .i (v := (.agg #[(.int .u8 ((x.xs[k]'hlt).k)), (.int .i64 ((x.xs[k]'hlt).n)), (.string ((x.xs[k]'hlt).t)), (.slice cn22_16a (((x.xs[k]'hlt).ns).length) cn22_16c), (.slice ci22_16a (((x.xs[k]'hlt).xs).length) ci22_16c)])) (loA (hbs rfl e5) own_b5_16 nb_b5_16_ar9 agg26 sz26 rfl rfl) ?_
  refine .op (φ := IsD (Fr W20) (V.d ((x.xs[k]'hlt)))) (st_d (sub_frnb (fun b hb => A4_10.lt b hb))) (sp_call1 (φ1 := IsD (SA w S (b5_16 :: (blks hd4_10 ++ (b3_4 :: (b2_2 :: []))))) (V.d ((x.xs[k]'hlt)))) ent77 ((hlc rfl).dat (rdV_in (x := (x.xs[k]'hlt)) ht_v22_16 D_cn22_16 D_ci22_16 : Rd W20 (SA w S (b5_16 :: (blks hd4_10 ++ (b3_4 :: (b2_2 :: []))))) (V.d ((x.xs[k]'hlt))) _) (sub_nb (fun b hb => List.mem_cons_of_mem _ (List.mem_append_left _ hb)))) (fun g u1 W hk hgk h1 => (duplicate_all _ ((x.xs[k]'hlt)) (Nat.le_refl _) (by omega) W _ _ h1).mono (ret_fr hk hgk))) ?_
  refine .op (φ := IsD (SF w (b5_16 :: (blks hd4_10 ++ (b3_4 :: (b2_2 :: []))))) (valsD ([(x.xs[k]'hlt)]))) (st_d (sub_nbF (fun b hb => List.mem_cons_of_mem _ (List.mem_append_left _ hb)))) (sp_bsl (ds := [V.d ((x.xs[k]'hlt))]) Tryz.underlying24 sz26 z26 (lbr rfl) (lbr rfl) ⟨rfl, ((hlc rfl).sup (fr_sf kw (in_cons own_b5_16.lt (in_app A4_10.lt (in_cons own_b3_4.lt (in_cons own_b2_2.lt in_nil)))))), trivial⟩ rfl (by intro e he; simp at he; rcases he with rfl <;> exact width_V _) (fr_sf kw (in_cons own_b5_16.lt (in_app A4_10.lt (in_cons own_b3_4.lt (in_cons own_b2_2.lt in_nil)))))) ?_
  refine .appB (ds := List.map V.d (x.xs.take k)) (es := [V.d ((x.xs[k]'hlt))]) (X := SF w (b5_16 :: (blks hd4_10 ++ (b3_4 :: (b2_2 :: []))))) Tryz.underlying24 inf26 (lbr rfl) (hlc rfl) (hlc rfl) (sub_nbF (fun b hb => List.mem_cons_of_mem _ (List.mem_append_left _ hb))) (by simp [maxLen]; omega) (by simp; omega) kw.size ?_
  refine .i (fo 4 (hbs rfl e3) Tryz.underlying26 rfl sz24 rfl) ?_
  refine .dn fun a21 g W21 y21 zz21 hk hg hV hR hP => ?_
  obtain ⟨e33, e32, -, -, -, -, -, -⟩ := hV
  replace e2 := ft hR e2
  replace e3 := ft hR e3
  replace e17 := ft hR e17
  replace e18 := ft hR e18
  replace e19 := ft hR e19
  obtain ⟨v32_21, ev⟩ : ∃ v, sl a21 32 = v := ⟨_, rfl⟩
  rw [ev] at e32
  obtain ⟨hd32_21, A_32_21, hf32_21⟩ := e32
  have e32 := ev; clear ev
  obtain ⟨v32_21a, v32_21n, v32_21c, ev⟩ := arr_sl A_32_21; subst ev
  replace A_32_21 := arrF_new (M' := (b5_16 :: (blks hd32_21 ++ (b3_4 :: (b2_2 :: []))))) A_32_21 (rep_cons (rep_app (rep_q fun _ h => h) (rep_cons (rep_cons rep_nil))))
  replace A_32_21 : Arr W21 w.heap.size 26 5 (SF w (b5_16 :: (blks hd32_21 ++ (b3_4 :: (b2_2 :: []))))) (List.map V.d ((x.xs.take k) ++ [(x.xs[k]'hlt)])) (.slice v32_21a v32_21n v32_21c) hd32_21 := by first | exact A_32_21 | (rw [List.map_append]; exact A_32_21)
  have nb_b2_2_21 : b2_2 ∉ blks hd32_21 := nb_new nb_b2_2_ar9_10 own_b2_2.lt hf32_21
  have nb_b3_4_21 : b3_4 ∉ blks hd32_21 := nb_new nb_b3_4_ar9_10 own_b3_4.lt hf32_21
  have nb_b5_16_21 : b5_16 ∉ blks hd32_21 := nb_new nb_b5_16_ar9 own_b5_16.lt hf32_21
  replace D_ci0 := sa_app (M' := (b5_16 :: (blks hd32_21 ++ (b3_4 :: (b2_2 :: []))))) D_ci0 hk (fun b hb => List.mem_cons_of_mem _ (List.mem_append_left _ hb)) (rep_cons (rep_app hf32_21 (rep_cons (rep_cons rep_nil))))
  replace D_v15_4 := sf_app (M' := (b5_16 :: (blks hd32_21 ++ (b3_4 :: (b2_2 :: []))))) D_v15_4 hk (fun b hb => List.mem_cons_of_mem _ (List.mem_append_left _ hb)) (rep_cons (rep_app hf32_21 (rep_cons (rep_cons rep_nil))))
  replace D_cn22_16 := sa_app (M' := (b5_16 :: (blks hd32_21 ++ (b3_4 :: (b2_2 :: []))))) D_cn22_16 hk (fun b hb => List.mem_cons_of_mem _ (List.mem_append_left _ hb)) (rep_cons (rep_app hf32_21 (rep_cons (rep_cons rep_nil))))
  replace D_ci22_16 := sa_app (M' := (b5_16 :: (blks hd32_21 ++ (b3_4 :: (b2_2 :: []))))) D_ci22_16 hk (fun b hb => List.mem_cons_of_mem _ (List.mem_append_left _ hb)) (rep_cons (rep_app hf32_21 (rep_cons (rep_cons rep_nil))))
  replace own_b2_2 := own_app own_b2_2 hk nb_b2_2_ar9_10
  replace own_b3_4 := own_app own_b3_4 hk nb_b3_4_ar9_10
  replace own_b5_16 := own_app own_b5_16 hk nb_b5_16_ar9
  replace kw := keeps_app kw hk A4_10.ge
  have e33 : sl a21 33 = (.pointer (some ⟨b3_4, 4, none⟩)) := e33
  clear hR hk hg hP hf32_21 A4_10
  refine tail_store e33 e32 sz24 rfl own_b3_4 (lbr rfl) (all_cons rfl all_nil) (fun W22 hs own_b3_4 => ?_)
  have own_b3_4 : Own W22 b3_4 [(.int .u8 (x.k)), (.int .i64 (x.n)), (.string (x.t)), (.slice v15_4a (x.ns.length) v15_4c), (.slice v32_21a v32_21n v32_21c)] 26 := own_b3_4
  replace own_b2_2 := own_store own_b2_2 hs ne_b2_2_b3_4
  replace own_b5_16 := own_store own_b5_16 hs ne_b3_4_b5_16.symm
  replace D_ci0 := sa_store D_ci0 hs (by simp)
  replace D_v15_4 := sf_store D_v15_4 hs (by simp)
  replace D_cn22_16 := sa_store D_cn22_16 hs (by simp)
  replace D_ci22_16 := sa_store D_ci22_16 hs (by simp)
  replace A_32_21 := arrF_store A_32_21 hs (by simp) nb_b3_4_21
  replace kw := keeps_store kw hs lo_b3_4
  clear hs
  refine zn (hK14 _ _ ?_)
  refine rg mixed y21 zz21 ?_
  refine .i (sp_add (hbs rfl e19) Has.cst (i64_in (by omega))) ?_
  refine .i (sp_move (hlc rfl)) ?_
  refine .dn fun a23 g W23 y23 zz23 hk hg hV hR hP => ?_
  obtain ⟨e19, -, -⟩ := hV
  replace e2 := ft hR e2
  replace e3 := ft hR e3
  replace e17 := ft hR e17
  replace e18 := ft hR e18
  replace A_32_21 := A_32_21.ext hk
  replace D_ci0 := D_ci0.ext hk
  replace D_v15_4 := D_v15_4.ext hk
  replace e19 := e19.q
  replace own_b2_2 := own_b2_2.ext hk
  replace own_b3_4 := own_b3_4.ext hk
  replace own_b5_16 := own_b5_16.ext hk
  replace kw := kw.x hk
  clear hR hk hg hP
  rw [show (x.xs.take k) ++ [(x.xs[k]'hlt)] = x.xs.take (k + 1) by rw [List.take_succ_eq_append_getElem hlt]] at A_32_21
  exact tail_nil ⟨hlt, (.slice v32_21a v32_21n v32_21c), hd32_21, y23, zz23, kw, e2, e3, e17, e18, (e19.trans (congrArg (Value.int .i64) (by simp))), own_b2_2, own_b3_4, (sa_less D_ci0 (ls_skip (ls_keepA (ls_keep (ls_keep ls_nil))))), (sf_less D_v15_4 (ls_skip (ls_keepA (ls_keep (ls_keep ls_nil))))), (arrF_less A_32_21 (ls_skip (ls_keepA (ls_keep (ls_keep ls_nil))))), nb_b2_2_21, nb_b3_4_21⟩
 have hge0 : ¬ k < x.xs.length := by simpa using hc
 have hge : k = x.xs.length := by omega
 rw [show x.xs.take k = x.xs by rw [hge, List.take_length]] at A4_10
 have D_va4_10 : Rd W12 (SF w [b3_4, b2_2]) (valsD (x.xs)) va4_10 := arrF_rd A4_10 (ls_skipA (ls_keep (ls_keep ls_nil))) (nin_cons nb_b3_4_ar9_10 (nin_cons nb_b2_2_ar9_10 nin_nil))
 obtain ⟨va4_10a, va4_10c, ev, D2⟩ := rdVs_out D_va4_10
 subst ev; replace D_va4_10 := D2; clear D2
 replace D_ci0 := sa_less (M' := [b3_4, b2_2]) D_ci0 (ls_skipA (ls_keep (ls_keep ls_nil)))
 replace D_v15_4 := sf_less (M' := [b3_4, b2_2]) D_v15_4 (ls_skipA (ls_keep (ls_keep ls_nil)))
 refine wp_exit (hK6 _ _ ?_)
 refine zq fun K24 hK24 => ?_
 refine rg mixed y12 zz12 ?_
 refine .i (v := (.agg #[(.int .u8 (x.k)), (.int .i64 (x.n)), (.string (x.t)), (.slice v15_4a (x.ns.length) v15_4c), (.slice va4_10a (x.xs.length) va4_10c)])) (loA (hbs rfl e3) own_b3_4 trivial agg26 sz26 rfl rfl) ?_
 refine .dn fun a25 g W25 y25 zz25 hk hg hV hR hP => ?_
 obtain ⟨e35, -⟩ := hV
 replace e2 := ft hR e2
 replace D_ci0 := D_ci0.ext hk
 replace D_v15_4 := D_v15_4.ext hk
 replace D_va4_10 := D_va4_10.ext hk
 replace e35 := e35.q
 replace own_b2_2 := own_b2_2.ext hk
 replace own_b3_4 := own_b3_4.ext hk
 replace kw := kw.x hk
 clear hR hk hg hP
 refine tail_store e2 e35 sz26 rfl own_b2_2 (lbr rfl) (all_cons rfl (all_cons rfl (all_cons rfl (all_cons rfl (all_cons rfl all_nil))))) (fun W26 hs own_b2_2 => ?_)
 have own_b2_2 : Own W26 b2_2 [(.int .u8 (x.k)), (.int .i64 (x.n)), (.string (x.t)), (.slice v15_4a (x.ns.length) v15_4c), (.slice va4_10a (x.xs.length) va4_10c)] 26 := own_b2_2
 replace own_b3_4 := own_store own_b3_4 hs ne_b2_2_b3_4.symm
 replace D_ci0 := sa_store D_ci0 hs (by simp)
 replace D_v15_4 := sf_store D_v15_4 hs (by simp)
 replace D_va4_10 := sf_store D_va4_10 hs (by simp)
 replace kw := keeps_store kw hs lo_b2_2
 clear hs
 refine zn (hK24 _ _ ?_)
 refine wp_ret ?_
 refine retC (v := (.agg #[(.int .u8 (x.k)), (.int .i64 (x.n)), (.string (x.t)), (.slice v15_4a (x.ns.length) v15_4c), (.slice va4_10a (x.xs.length) va4_10c)])) rfl zz25 e2 own_b2_2 agg26 sz26 rfl (fun h => by cases h) rfl ⟨_, rfl, kw, ?_⟩
 exact sf_fr (rdV_in (x := x) ht0 D_v15_4 D_va4_10 : Rd W26 (SF w [b3_4, b2_2]) (V.d (x)) _)
end Go.Proofs.YtnobijngkpflcaaGreat
namespace Go.Eng
theorem sLt_iff (a b : ByteArray) : sLt a b = true ↔ a.toList < b.toList := by unfold sLt; rw [Go.Proofs.bytesLess_eq]; simp
theorem sLt_trans {a b c : ByteArray} (h1 : sLt a b = true) (h2 : sLt b c = true) : sLt a c = true := by
  rw [sLt_iff] at *; exact List.lt_trans h1 h2
theorem sLt_irrefl (a : ByteArray) : sLt a a = false := by
  cases h : sLt a a with
  | false => rfl
  | true => rw [sLt_iff] at h; exact absurd h (List.lt_irrefl _)
theorem asc_lt {ns : List ByteArray} (h : asc ns = true) : ∀ (j i : Nat) (hj : j < ns.length) (hi : i < j), sLt (ns[i]'(by omega)) ns[j] = true := by
  have ha := (asc_iff ns).1 h
  intro j
  induction j with
  | zero => intro i _ hi; omega
  | succ j ih =>
    intro i hj hi
    rcases Nat.lt_succ_iff_lt_or_eq.1 hi with h1 | h1
    · exact sLt_trans (ih i (by omega) h1) (ha j hj)
    · subst h1; exact ha i hj
def lb (ns : List ByteArray) (name : ByteArray) : Nat := (ns.takeWhile fun n => sLt n name).length
theorem lb_le (ns : List ByteArray) (name : ByteArray) : lb ns name ≤ ns.length := by unfold lb; exact (List.takeWhile_sublist _).length_le
theorem take_len {α : Type} (f : α → Bool) : ∀ (l : List α) (m : Nat), m ≤ l.length → (∀ i (h : i < l.length), i < m → f l[i] = true) → (∀ h : m < l.length, f l[m] = false) → (l.takeWhile f).length = m
  | [], m, hm, _, _ => by simp at hm; simp [hm]
  | x :: l, 0, _, _, h2 => by
    have := h2 (by simp)
    simp at this
    simp [List.takeWhile_cons, this]
  | x :: l, m + 1, hm, h1, h2 => by
    have h0 := h1 0 (by simp) (by omega)
    simp at h0
    simp only [List.takeWhile_cons, h0, if_true, List.length_cons]
    rw [take_len f l m (by simpa using hm) (fun i h hi => h1 (i + 1) (by simpa using h) (by omega)) (fun h => h2 (by simpa using h))]
theorem lb_of {ns : List ByteArray} {name : ByteArray} (ha : asc ns = true) {m : Nat} {p : Nat → Bool} (hp : ∀ i (h : i < ns.length), p i = !sLt ns[i] name) (hm : m ≤ ns.length) (h1 : m = 0 ∨ p (m - 1) = false) (h2 : m = ns.length ∨ p m = true) : lb ns name = m := by
  refine take_len _ ns m hm (fun i hi him => ?_) (fun h => ?_)
  · rcases h1 with h1 | h1
    · omega
    · have h3 : sLt ns[m - 1] name = true := by
        have := hp (m - 1) (by omega); rw [h1] at this; simpa using this.symm
      rcases Nat.lt_or_ge i (m - 1) with h4 | h4
      · exact sLt_trans (asc_lt ha (m - 1) i (by omega) h4) h3
      · have : i = m - 1 := by omega
        subst this; exact h3
  · rcases h2 with h2 | h2
    · omega
    · have := hp m h; rw [h2] at this; simpa using this.symm
def idx (name : ByteArray) : List ByteArray → Nat → Int
  | [], _ => -1
  | n :: ns, i => if name = n then i else idx name ns (i + 1)
def findI (ns : List ByteArray) (name : ByteArray) : Int := if asc ns then lb ns name else idx name ns 0
def findB (ns : List ByteArray) (name : ByteArray) : Bool := if asc ns then decide (ns[lb ns name]? = some name) else decide (0 ≤ idx name ns 0)
theorem find_fin (ns : List ByteArray) (name : ByteArray) (m : Nat) : (decide (((m : Nat) : Int) < (ns.length : Int)) && decide (ns.getD m ⟨#[]⟩ = name)) = decide (ns[m]? = some name) := by
  by_cases h : m < ns.length
  · have h' : ((m : Nat) : Int) < (ns.length : Int) := by omega
    simp [h', List.getD_eq_getElem?_getD, h]
  · have h' : ¬ ((m : Nat) : Int) < (ns.length : Int) := by omega
    simp only [h', decide_false, Bool.false_and]
    rw [List.getElem?_eq_none (by omega)]; simp
section
variable {P : Program} {ops : Array Oper} {S : Nat → Prop} {w0 : World} {a0 : Act} {Γ : Ctx}
variable {d : Option Tmp} {ty : TypeId} {pos : String} {af : Array Edge} {gd : Option (Nat × Bool)}
theorem sp_indexSD {x y : Operand} {T E : TypeId} {S' : BSet} {ns : List ByteArray} {i : Nat} {j : Int} (hx : Has S w0 a0 Γ x (IsD S' (strsD ns))) (hy : Has S w0 a0 Γ y (Is (.int .i64 j))) (hT : P.underlying T = some (.slice E)) (hz : szOf P E = some 1)
    (hj : j = i) (hi : i < ns.length) : Spec P ops S w0 a0 Γ ⟨d, .indexAddr T x y, ty, pos, af, gd⟩ (IsR S' (.str (ns.getD i ⟨#[]⟩))) := by
  have := sp_indexS (ty := ty) (pos := pos) (af := af) (gd := gd) (d := d) (ops := ops) hx hy hT hz hj hi
  rw [List.getD_eq_getElem?_getD, List.getElem?_eq_getElem hi]; exact this
end
def V.zero : V := .mk 0 0 ⟨#[]⟩ [] []
end Go.Eng
namespace Go.Proofs.YtnobijngkpflcaaGreat
open Go.Eng
set_option maxRecDepth 100000 in
theorem search_ok (n : Nat) (hn : n ≤ 1073741824) (fi : FuncId) (cb : Array Value) (p : Nat → Bool) (w : World) (ef : Enters Tryz.prog fi) (hf : ∀ W, Ext w W → ∀ i, i < n → Calls Tryz.prog fi (#[.int .i64 i] ++ cb) W (Ret W fun u _ => u = .bool (p i))) :
   Calls Tryz.prog 88 #[.int .i64 n, .func (.func fi) #[] cb] w (Ret w fun u _ => ∃ m : Nat, u = .int .i64 m ∧ m ≤ n ∧ (m = 0 ∨ p (m - 1) = false) ∧ (m = n ∨ p m = true)) := by
 refine enter Tryz.func88 rfl Tryz.ntmps88 (lbr rfl) fun a0 y0 zz0 harg => ?_
 have e0 : sl a0 0 = (.int .i64 ((n : Nat))) := harg 0 (lbr rfl)
 have e1 : sl a0 1 = (.func (.func fi) #[] cb) := harg 1 (lbr rfl)
 have kw := Keeps.refl All w
 clear harg
 refine zq fun K1 hK1 => ?_
 refine rg mixed y0 zz0 ?_
 refine .ac ?_
 refine .dn fun a2 g W2 y2 zz2 hk hg hV hR hP => ?_
 obtain ⟨-, -⟩ := hV
 replace e0 := ft hR e0
 replace e1 := ft hR e1
 replace kw := kw.x hk
 clear hR hk hg hP
 refine zn (hK1 _ _ ?_)
 refine zq fun K3 hK3 => ?_
 refine rg mixed y2 zz2 ?_
 refine .mb rfl e0 ?_
 refine .ac ?_
 refine .al rfl ?_
 refine .dn fun a4 g W4 y4 zz4 hk hg hV hR hP => ?_
 obtain ⟨e6, e5, -, -⟩ := hV
 replace e1 := ft hR e1
 replace e5 := e5.q
 replace e6 := e6.q
 replace kw := kw.x hk
 clear hR hk hg hP
 refine zn (hK3 _ _ ?_)
 refine zq fun K5 hK5 => ?_
 refine wp_block ?_
 refine wp_for (n) (fun k a W => ∃ (lo : Nat), ∃ (hi : Nat), a.tmps.size = 26 ∧ a.defers = [] ∧ Keeps All w W ∧ sl a 1 = (.func (.func fi) #[] cb) ∧ sl a 5 = (.int .i64 ((lo : Nat))) ∧ sl a 6 = (.int .i64 ((hi : Nat))) ∧ (lo ≤ hi ∧ hi ≤ n ∧ k + (hi - lo) ≤ n) ∧ ((lo = 0 ∨ p (lo - 1) = false)) ∧ ((hi = n ∨ p hi = true))) ⟨0, n, y4, zz4, kw, e1, (e5.trans (congrArg (Value.int .i64) (rfl))), (e6.trans (congrArg (Value.int .i64) (rfl))), by omega, .inl rfl, .inl rfl⟩ ?_
 clear kw e1 e5 e6
 rintro k a6 W6 hkk ⟨lo, hi, y6, zz6, kw, e1, e5, e6, hlh, hp1, hp2⟩
 refine zq fun K7 hK7 => ?_
 refine zq fun K8 hK8 => ?_
 refine rg mixed y6 zz6 ?_
 refine .mb rfl e5 ?_
 refine .mb rfl e6 ?_
 refine .i (sp_lss (hlc rfl) (hlc rfl)) ?_
 refine .dn fun a9 g W9 y9 zz9 hk hg hV hR hP => ?_
 obtain ⟨e11, -, -, -⟩ := hV
 replace e1 := ft hR e1
 replace e5 := ft hR e5
 replace e6 := ft hR e6
 replace e11 := e11.q
 replace kw := kw.x hk
 clear hR hk hg hP
 refine zn (hK8 _ _ ?_)
 refine zc e11 (fun hc => ?_) (fun hc => ?_)
 ·
  have hlt : lo < hi := by have := of_decide_eq_true hc; omega
  refine wp_skip (hK7 _ _ ?_)
  refine wp_block ?_
  refine zq fun K10 hK10 => ?_
  refine rg mixed y9 zz9 ?_
  refine .mb rfl e5 ?_
  refine .mb rfl e6 ?_
  refine .i (sp_add (hlc rfl) (hlc rfl) (i64_in (by omega))) ?_
  refine .i (v := (.int .u64 (((lo : Nat) : Int) + ((hi : Nat) : Int)))) (sp_conv Tryz.underlying3 Tryz.underlying105 (hlc rfl) (u64_in (by omega))) ?_
  refine .i (v := (.int .u64 ((((lo : Nat) : Int) + ((hi : Nat) : Int) : Int) / 2))) (sp_shr1 (hlc rfl)) ?_
  refine .i (v := (.int .i64 ((((lo : Nat) : Int) + ((hi : Nat) : Int) : Int) / 2))) (sp_conv Tryz.underlying105 Tryz.underlying3 (hlc rfl) (i64_in (by omega))) ?_
  refine .al rfl ?_
  refine .dn fun a11 g W11 y11 zz11 hk hg hV hR hP => ?_
  obtain ⟨e7, -, -, -, -, -, -, -⟩ := hV
  replace e1 := ft hR e1
  replace e5 := ft hR e5
  replace e6 := ft hR e6
  replace e7 := e7.q
  replace kw := kw.x hk
  clear hR hk hg hP
  refine zn (hK10 _ _ ?_)
  refine zq fun K12 hK12 => ?_
  refine rg mixed y11 zz11 ?_
  refine .mb rfl e1 ?_
  refine .mb rfl e7 ?_
  refine .i (v := (.bool (p ((lo + hi) / 2)))) (sp_callF1 ef (hlc rfl) (hlc rfl) (fun g W hk hgk => by rw [show ((((lo : Nat) : Int) + ((hi : Nat) : Int) : Int) / 2 : Int) = (((lo + hi) / 2 : Nat) : Int) by omega]; exact hf W (kw.trans hk) _ (by omega))) ?_
  refine .i (sp_not (hlc rfl)) ?_
  refine .dn fun a13 g W13 y13 zz13 hk hg hV hR hP => ?_
  obtain ⟨e21, -, -, -, -⟩ := hV
  replace e1 := ft hR e1
  replace e5 := ft hR e5
  replace e6 := ft hR e6
  replace e7 := ft hR e7
  replace e21 := e21.q
  replace kw := kw.x hk
  clear hR hk hg hP
  refine zn (hK12 _ _ ?_)
  refine zc e21 (fun hc => ?_) (fun hc => ?_)
  ·
   have hpm : p ((lo + hi) / 2) = false := by simpa using hc
   refine rg mixed y13 zz13 ?_
   refine .mb rfl e7 ?_
   refine .i (sp_add (hlc rfl) Has.cst (i64_in (by omega))) ?_
   refine .al rfl ?_
   refine .dn fun a14 g W14 y14 zz14 hk hg hV hR hP => ?_
   obtain ⟨e5, -, -, -⟩ := hV
   replace e1 := ft hR e1
   replace e6 := ft hR e6
   replace e5 := e5.q
   replace kw := kw.x hk
   clear hR hk hg hP
   exact tail_nil ⟨by omega, ((lo + hi) / 2 + 1), hi, y14, zz14, kw, e1, (e5.trans (congrArg (Value.int .i64) (by omega))), (e6.trans (congrArg (Value.int .i64) (by omega))), by omega, (by first | exact hp1 | exact .inr hpm), (by first | exact hp2 | exact .inr hpm)⟩
  have hpm : p ((lo + hi) / 2) = true := by simpa using hc
  refine rg mixed y13 zz13 ?_
  refine .mb rfl e7 ?_
  refine .al rfl ?_
  refine .dn fun a15 g W15 y15 zz15 hk hg hV hR hP => ?_
  obtain ⟨e6, -, -⟩ := hV
  replace e1 := ft hR e1
  replace e5 := ft hR e5
  replace e6 := e6.q
  replace kw := kw.x hk
  clear hR hk hg hP
  exact tail_nil ⟨by omega, lo, ((lo + hi) / 2), y15, zz15, kw, e1, (e5.trans (congrArg (Value.int .i64) (by omega))), (e6.trans (congrArg (Value.int .i64) (by omega))), by omega, (by first | exact hp1 | exact .inr hpm), (by first | exact hp2 | exact .inr hpm)⟩
 have hge : lo = hi := by have := of_decide_eq_false hc; omega
 subst hge
 refine wp_exit (hK5 _ _ ?_)
 refine zq fun K16 hK16 => ?_
 refine rg mixed y9 zz9 ?_
 refine .mb rfl e5 ?_
 refine .al rfl ?_
 refine .dn fun a17 g W17 y17 zz17 hk hg hV hR hP => ?_
 obtain ⟨e4, -, -⟩ := hV
 replace e4 := e4.q
 replace kw := kw.x hk
 clear hR hk hg hP
 refine zn (hK16 _ _ ?_)
 refine wp_ret ?_
 refine ret1 rfl zz17 e4 ⟨_, rfl, kw, ?_⟩
 exact ⟨_, rfl, hlh.2.1, hp1, hp2⟩
set_option maxRecDepth 100000 in
theorem index_ok (ns : List ByteArray) (name : ByteArray) (w : World) (S : BSet) (v : Value) (hv : Rd w S (strsD ns) v) : Calls Tryz.prog 87 #[v, .string name] w (Ret w fun u _ => u = .int .i64 (idx name ns 0)) := by
 have hmn : ns.length ≤ maxLen := rd_lenS hv
 simp only [maxLen] at hmn
 obtain ⟨va, vc, ev, D_v⟩ := rdS_out (rd_arg hv)
 subst ev
 refine enter Tryz.func87 rfl Tryz.ntmps87 (lbr rfl) fun a0 y0 zz0 harg => ?_
 have e0 : sl a0 0 = (.slice va (ns.length) vc) := harg 0 (lbr rfl)
 have e1 : sl a0 1 = (.string (name)) := harg 1 (lbr rfl)
 have kw := Keeps.refl All w
 clear harg
 refine zq fun K1 hK1 => ?_
 refine rg mixed y0 zz0 ?_
 refine .ac ?_
 refine .dn fun a2 g W2 y2 zz2 hk hg hV hR hP => ?_
 obtain ⟨-, -⟩ := hV
 replace e0 := ft hR e0
 replace e1 := ft hR e1
 replace D_v := D_v.ext hk
 replace kw := kw.x hk
 clear hR hk hg hP
 refine zn (hK1 _ _ ?_)
 refine zq fun K3 hK3 => ?_
 refine zq fun K4 hK4 => ?_
 refine rg mixed y2 zz2 ?_
 refine .mb rfl e0 ?_
 refine .i (sp_lenSs Tryz.underlying23 ((hlc rfl).dat D_v sub_all)) ?_
 refine .i (sp_move Has.cst) ?_
 refine .dn fun a5 g W5 y5 zz5 hk hg hV hR hP => ?_
 obtain ⟨e8, e7, -, -⟩ := hV
 replace e0 := ft hR e0
 replace e1 := ft hR e1
 replace D_v := D_v.ext hk
 replace e7 := e7.q
 replace e8 := e8.q
 replace kw := kw.x hk
 clear hR hk hg hP
 refine zn (hK4 _ _ ?_)
 refine wp_block ?_
 refine wp_for (ns.length) (fun k a W => a.tmps.size = 19 ∧ a.defers = [] ∧ Keeps All w W ∧ sl a 0 = (.slice va (ns.length) vc) ∧ sl a 1 = (.string (name)) ∧ sl a 7 = (.int .i64 (ns.length)) ∧ sl a 8 = (.int .i64 ((k : Nat))) ∧ Rd W (SA w S []) (strsD (ns)) (.slice va (ns.length) vc) ∧ (idx name ns 0 = idx name (ns.drop k) k)) ⟨y5, zz5, kw, e0, e1, e7, (e8.trans (congrArg (Value.int .i64) (rfl))), D_v, rfl⟩ ?_
 clear kw e0 e1 e7 e8 D_v
 rintro k a6 W6 hkk ⟨y6, zz6, kw, e0, e1, e7, e8, D_v, hin⟩
 refine zq fun K7 hK7 => ?_
 refine rg mixed y6 zz6 ?_
 refine .i (sp_lss (hbs rfl e8) (hbs rfl e7)) ?_
 refine .dn fun a8 g W8 y8 zz8 hk hg hV hR hP => ?_
 obtain ⟨e9, -⟩ := hV
 replace e0 := ft hR e0
 replace e1 := ft hR e1
 replace e7 := ft hR e7
 replace e8 := ft hR e8
 replace D_v := D_v.ext hk
 replace e9 := e9.q
 replace kw := kw.x hk
 clear hR hk hg hP
 refine zn (hK7 _ _ ?_)
 refine zq fun K9 hK9 => ?_
 refine zc e9 (fun hc => ?_) (fun hc => ?_)
 ·
  have hlt : k < ns.length := by simpa using hc
  rw [List.drop_eq_getElem_cons hlt, idx] at hin
  refine wp_skip (hK9 _ _ ?_)
  refine zq fun K10 hK10 => ?_
  refine wp_block ?_
  refine zq fun K11 hK11 => ?_
  refine rg mixed y8 zz8 ?_
  refine .mb rfl e8 ?_
  refine .al rfl ?_
  refine .dn fun a12 g W12 y12 zz12 hk hg hV hR hP => ?_
  obtain ⟨e5, -, -⟩ := hV
  replace e0 := ft hR e0
  replace e1 := ft hR e1
  replace e7 := ft hR e7
  replace e8 := ft hR e8
  replace D_v := D_v.ext hk
  replace e5 := e5.q
  replace kw := kw.x hk
  clear hR hk hg hP
  refine zn (hK11 _ _ ?_)
  refine zq fun K13 hK13 => ?_
  refine rg mixed y12 zz12 ?_
  refine .mb rfl e1 ?_
  refine .mb rfl e0 ?_
  refine .mb rfl e5 ?_
  refine .rf (sp_indexS (i := k) ((hlc rfl).dat D_v sub_all) (hlc rfl) Tryz.underlying23 sz9 rfl hlt) ?_
  refine .i (sp_loadStr (hlc rfl) agg9 sz9) ?_
  refine .i (sp_sEql (hlc rfl) (hlc rfl)) ?_
  refine .dn fun a14 g W14 y14 zz14 hk hg hV hR hP => ?_
  obtain ⟨e16, -, -, -, -, -, -⟩ := hV
  replace e0 := ft hR e0
  replace e1 := ft hR e1
  replace e7 := ft hR e7
  replace e8 := ft hR e8
  replace e5 := ft hR e5
  replace D_v := D_v.ext hk
  replace e16 := e16.q
  replace kw := kw.x hk
  clear hR hk hg hP
  refine zn (hK13 _ _ ?_)
  refine zc e16 (fun hc => ?_) (fun hc => ?_)
  ·
   have hfin : idx name ns 0 = (k : Nat) := by rw [hin, if_pos (by simpa using hc)]
   refine zq fun K15 hK15 => ?_
   refine rg mixed y14 zz14 ?_
   refine .mb rfl e5 ?_
   refine .al rfl ?_
   refine .dn fun a16 g W16 y16 zz16 hk hg hV hR hP => ?_
   obtain ⟨e4, -, -⟩ := hV
   replace D_v := D_v.ext hk
   replace e4 := e4.q
   replace kw := kw.x hk
   clear hR hk hg hP
   refine zn (hK15 _ _ ?_)
   refine wp_ret ?_
   refine ret1 rfl zz16 e4 ⟨_, rfl, kw, ?_⟩
   rw [hfin]; try rfl
  rw [if_neg (by simpa using hc)] at hin
  refine wp_skip (hK10 _ _ ?_)
  refine rg mixed y14 zz14 ?_
  refine .i (sp_add (hbs rfl e8) Has.cst (i64_in (by omega))) ?_
  refine .i (sp_move (hlc rfl)) ?_
  refine .dn fun a17 g W17 y17 zz17 hk hg hV hR hP => ?_
  obtain ⟨e8, -, -⟩ := hV
  replace e0 := ft hR e0
  replace e1 := ft hR e1
  replace e7 := ft hR e7
  replace D_v := D_v.ext hk
  replace e8 := e8.q
  replace kw := kw.x hk
  clear hR hk hg hP
  exact tail_nil ⟨hlt, y17, zz17, kw, e0, e1, e7, (e8.trans (congrArg (Value.int .i64) (by simp))), D_v, hin⟩
 have hge0 : ¬ k < ns.length := by simpa using hc
 have hge : k = ns.length := by omega
 rw [hge, List.drop_length] at hin
 have hfin : idx name ns 0 = -1 := hin
 refine wp_exit (hK3 _ _ ?_)
 refine zq fun K18 hK18 => ?_
 refine rg mixed y8 zz8 ?_
 refine .ac ?_
 refine .dn fun a19 g W19 y19 zz19 hk hg hV hR hP => ?_
 obtain ⟨e4, -⟩ := hV
 replace D_v := D_v.ext hk
 replace e4 := e4.q
 replace kw := kw.x hk
 clear hR hk hg hP
 refine zn (hK18 _ _ ?_)
 refine wp_ret ?_
 refine ret1 rfl zz19 e4 ⟨_, rfl, kw, ?_⟩
 rw [hfin]; try rfl
set_option maxRecDepth 100000 in
theorem find1_ok (ns : List ByteArray) (name : ByteArray) (i : Nat) (hi : i < ns.length) (w : World) (S : BSet) (v : Value) (bn bs : Nat) (hv : Rd w S (strsD ns) v) (own_bn : Own w bn [v] 23) (own_bs : Own w bs [.string name] 9) : Calls Tryz.prog 89 #[.int .i64 i, .pointer (some ⟨bn, 0, none⟩), .pointer (some ⟨bs, 0, none⟩)] w (Ret w fun u _ => u = .bool (!sLt ns[i] name)) := by
 obtain ⟨va, vc, ev, D_v⟩ := rdS_out (rd_arg hv)
 subst ev
 refine enter Tryz.func89 rfl Tryz.ntmps89 (lbr rfl) fun a0 y0 zz0 harg => ?_
 have e0 : sl a0 0 = (.int .i64 ((i : Nat))) := harg 0 (lbr rfl)
 have e1 : sl a0 1 = (.pointer (some ⟨bn, 0, none⟩)) := harg 1 (lbr rfl)
 have e2 : sl a0 2 = (.pointer (some ⟨bs, 0, none⟩)) := harg 2 (lbr rfl)
 have kw := Keeps.refl All w
 clear harg
 refine zq fun K1 hK1 => ?_
 refine rg mixed y0 zz0 ?_
 refine .ac ?_
 refine .dn fun a2 g W2 y2 zz2 hk hg hV hR hP => ?_
 obtain ⟨-, -⟩ := hV
 replace e0 := ft hR e0
 replace e1 := ft hR e1
 replace e2 := ft hR e2
 replace D_v := D_v.ext hk
 replace own_bn := own_bn.ext hk
 replace own_bs := own_bs.ext hk
 replace kw := kw.x hk
 clear hR hk hg hP
 refine zn (hK1 _ _ ?_)
 refine zq fun K3 hK3 => ?_
 refine rg mixed y2 zz2 ?_
 refine .i (lo1 (hbs rfl e1) own_bn trivial agg23 sz23 rfl) ?_
 refine .mb rfl e0 ?_
 refine .rf (sp_indexS (i := i) ((hlc rfl).dat D_v sub_all) (hlc rfl) Tryz.underlying23 sz9 rfl hi) ?_
 refine .i (sp_loadStr (hlc rfl) agg9 sz9) ?_
 refine .i (lo1 (hbs rfl e2) own_bs trivial agg9 sz9 rfl) ?_
 refine .i (sp_sGeq (hlc rfl) (hlc rfl)) ?_
 refine .al rfl ?_
 refine .dn fun a4 g W4 y4 zz4 hk hg hV hR hP => ?_
 obtain ⟨e4, -, -, -, -, -, -, -⟩ := hV
 replace D_v := D_v.ext hk
 replace e4 := e4.q
 replace own_bn := own_bn.ext hk
 replace own_bs := own_bs.ext hk
 replace kw := kw.x hk
 clear hR hk hg hP
 refine zn (hK3 _ _ ?_)
 refine wp_ret ?_
 refine ret1 rfl zz4 e4 ⟨_, rfl, kw, ?_⟩
 exact rfl
set_option maxRecDepth 100000 in
theorem find_ok (ns : List ByteArray) (name : ByteArray) (hn : ns.length ≤ 1073741824) (w : World) (S : BSet) (v : Value) (hv : Rd w S (strsD ns) v) : Calls Tryz.prog 78 #[v, .string name] w (Ret w fun u _ => u = .tuple #[.int .i64 (findI ns name), .bool (findB ns name)]) := by
 have hlb := lb_le ns name
 obtain ⟨va, vc, ev, D_v⟩ := rdS_out (rd_arg hv)
 subst ev
 refine enter Tryz.func78 rfl Tryz.ntmps78 (lbr rfl) fun a0 y0 zz0 harg => ?_
 have e0 : sl a0 0 = (.slice va (ns.length) vc) := harg 0 (lbr rfl)
 have e1 : sl a0 1 = (.string (name)) := harg 1 (lbr rfl)
 have kw := Keeps.refl All w
 clear harg
 refine zq fun K1 hK1 => ?_
 refine rg mixed y0 zz0 ?_
 refine .boxOp (v := (.slice va (ns.length) vc)) (hbs rfl e0) ?_
 refine .boxOp (v := (.string (name))) (hbs rfl e1) ?_
 refine .ac ?_
 refine .ac ?_
 refine .dn fun a2 g W2 y2 zz2 hk hg hV hR hP => ?_
 obtain ⟨-, -, ⟨b3_2, e3, hb3, own_b3_2⟩, ⟨b2_2, e2, hb2, own_b2_2⟩, -⟩ := hV
 have lo_b3_2 : w.heap.size ≤ b3_2 := Nat.le_trans kw.size (hg.lo _ _ hb3)
 have own_b3_2 : Own W2 b3_2 [(.string (name))] 9 := own_b3_2
 have lo_b2_2 : w.heap.size ≤ b2_2 := Nat.le_trans kw.size (hg.lo _ _ hb2)
 have own_b2_2 : Own W2 b2_2 [(.slice va (ns.length) vc)] 23 := own_b2_2
 have ne_b3_2_b2_2 : b3_2 ≠ b2_2 := fun h => by have := hg.inj _ _ _ hb3 (h ▸ hb2); cases this
 replace D_v := sa_more D_v hk [b3_2, b2_2] (in_cons (hg.lo _ _ hb3) (in_cons (hg.lo _ _ hb2) in_nil))
 replace kw := kw.x hk
 clear hR hk hg hP hb3 hb2
 refine zn (hK1 _ _ ?_)
 refine zq fun K3 hK3 => ?_
 refine zq fun K4 hK4 => ?_
 refine rg mixed y2 zz2 ?_
 refine .i (lo1 (hbs rfl e2) own_b2_2 trivial agg23 sz23 rfl) ?_
 refine .i (v := (.bool (asc ns))) (sp_call1 (φ1 := IsD (SA w S [b3_2, b2_2]) (strsD (ns))) ent85 ((hlc rfl).dat D_v sub_all) (fun g u1 W hk hgk h1 => ascending_ok (ns) W _ _ h1)) ?_
 refine .i (sp_not (hlc rfl)) ?_
 refine .dn fun a5 g W5 y5 zz5 hk hg hV hR hP => ?_
 obtain ⟨e10, -, -, -⟩ := hV
 replace e3 := ft hR e3
 replace e2 := ft hR e2
 replace D_v := D_v.ext hk
 replace e10 := e10.q
 replace own_b3_2 := own_b3_2.ext hk
 replace own_b2_2 := own_b2_2.ext hk
 replace kw := kw.x hk
 clear hR hk hg hP
 refine zn (hK4 _ _ ?_)
 refine zc e10 (fun hc => ?_) (fun hc => ?_)
 ·
  have hasc : asc ns = false := by simpa using hc
  refine zq fun K6 hK6 => ?_
  refine rg mixed y5 zz5 ?_
  refine .i (lo1 (hbs rfl e2) own_b2_2 trivial agg23 sz23 rfl) ?_
  refine .i (lo1 (hbs rfl e3) own_b3_2 trivial agg9 sz9 rfl) ?_
  refine .i (v := (.int .i64 (idx name ns 0))) (sp_call2 (φ1 := IsD (SA w S [b3_2, b2_2]) (strsD (ns))) (φ2 := Is (.string (name))) ent87 ((hlc rfl).dat D_v sub_all) (hlc rfl) (fun g u1 u2 W hk hgk h1 h2 => by have h2 : u2 = _ := h2; subst u2; exact index_ok (ns) (name) W _ _ h1)) ?_
  refine .al rfl ?_
  refine .dn fun a7 g W7 y7 zz7 hk hg hV hR hP => ?_
  obtain ⟨e6, -, -, -, -⟩ := hV
  replace D_v := D_v.ext hk
  replace e6 := e6.q
  replace own_b3_2 := own_b3_2.ext hk
  replace own_b2_2 := own_b2_2.ext hk
  replace kw := kw.x hk
  clear hR hk hg hP
  refine zn (hK6 _ _ ?_)
  refine zq fun K8 hK8 => ?_
  refine rg mixed y7 zz7 ?_
  refine .mb rfl e6 ?_
  refine .mb rfl e6 ?_
  refine .i (sp_geq (hlc rfl) Has.cst) ?_
  refine .al rfl ?_
  refine .al rfl ?_
  refine .dn fun a9 g W9 y9 zz9 hk hg hV hR hP => ?_
  obtain ⟨e5, e4, -, -, -, -⟩ := hV
  replace e4 := e4.q
  replace e5 := e5.q
  replace own_b3_2 := own_b3_2.ext hk
  replace own_b2_2 := own_b2_2.ext hk
  replace kw := kw.x hk
  clear hR hk hg hP
  refine zn (hK8 _ _ ?_)
  refine wp_ret ?_
  refine ret2 rfl zz9 e4 e5 ⟨_, rfl, kw, ?_⟩
  simp [findI, findB, hasc]
 have hasc : asc ns = true := by simpa using hc
 refine wp_skip (hK3 _ _ ?_)
 refine zq fun K10 hK10 => ?_
 refine rg mixed y5 zz5 ?_
 refine .i (lo1 (hbs rfl e2) own_b2_2 trivial agg23 sz23 rfl) ?_
 refine .i (sp_lenSs Tryz.underlying23 ((hlc rfl).dat D_v sub_all)) ?_
 refine .i (v := (.func (.func 89) #[] #[(.pointer (some ⟨b2_2, 0, none⟩)), (.pointer (some ⟨b3_2, 0, none⟩))])) (sp_mkF2 (hbs rfl e2) (hbs rfl e3)) ?_
 refine .i (v := (.int .i64 (((lb ns name : Nat) : Int)))) (sp_call2 (φ1 := Is (.int .i64 (ns.length))) (φ2 := Is (.func (.func 89) #[] #[(.pointer (some ⟨b2_2, 0, none⟩)), (.pointer (some ⟨b3_2, 0, none⟩))])) ent88 (hlc rfl) (hlc rfl) (fun g u1 u2 W hk hgk h1 h2 => by have h1 : u1 = _ := h1; subst u1; have h2 : u2 = _ := h2; subst u2; exact ((search_ok ns.length (by omega) _ _ (fun i => !sLt (ns.getD i ⟨#[]⟩) name) W ent89 fun W2 hk2 i hi => by have h := find1_ok ns name i hi W2 _ _ _ _ (D_v.ext (hk.trans hk2)) (own_b2_2.ext (hk.trans hk2)) (own_b3_2.ext (hk.trans hk2)); rw [List.getD_eq_getElem?_getD, List.getElem?_eq_getElem hi]; exact h)).mono (fun _ _ ⟨v, h1, h2, m, h3, h4, h5, h6⟩ => ⟨v, h1, h2, by rw [lb_of (p := fun i => !sLt (ns.getD i ⟨#[]⟩) name) hasc (fun i h => by simp [List.getD_eq_getElem?_getD, h]) h4 h5 h6]; exact h3⟩))) ?_
 refine .al rfl ?_
 refine .dn fun a11 g W11 y11 zz11 hk hg hV hR hP => ?_
 obtain ⟨e7, -, -, -, -, -⟩ := hV
 replace e3 := ft hR e3
 replace e2 := ft hR e2
 replace D_v := D_v.ext hk
 replace e7 := e7.q
 replace own_b3_2 := own_b3_2.ext hk
 replace own_b2_2 := own_b2_2.ext hk
 replace kw := kw.x hk
 clear hR hk hg hP
 refine zn (hK10 _ _ ?_)
 refine zq fun K12 hK12 => ?_
 refine rg mixed y11 zz11 ?_
 refine .mb rfl e7 ?_
 refine .mb rfl e7 ?_
 refine .i (lo1 (hbs rfl e2) own_b2_2 trivial agg23 sz23 rfl) ?_
 refine .i (sp_lenSs Tryz.underlying23 ((hlc rfl).dat D_v sub_all)) ?_
 refine .i (sp_lss (hlc rfl) (hlc rfl)) ?_
 refine .i (sp_move (hlc rfl)) ?_
 refine .e rfl (hlc rfl) (fun hg => lo1 (hbs rfl e2) own_b2_2 trivial agg23 sz23 rfl) ?_
 refine .em rfl (hlc rfl) rfl e7 ?_
 refine .opE (t := 26) (φ := IsR (SA w S [b3_2, b2_2]) (D.str (ns.getD (lb ns name) ⟨#[]⟩))) rfl (hlc rfl) (st_r sub_all) (fun hg => sp_indexSD (i := (lb ns name)) (((hlc rfl).undE hg).dat D_v sub_all) ((hlc rfl).undE hg) Tryz.underlying23 sz9 rfl (by have := of_decide_eq_true hg; omega)) ?_
 refine .e rfl (hlc rfl) (fun hg => sp_loadStr ((hlc rfl).undE hg) agg9 sz9) ?_
 refine .e rfl (hlc rfl) (fun hg => lo1 (hbs rfl e3) own_b3_2 trivial agg9 sz9 rfl) ?_
 refine .e rfl (hlc rfl) (fun hg => sp_sEql ((hlc rfl).undE hg) ((hlc rfl).undE hg)) ?_
 refine .i (sp_and (hlc rfl) ((hlc rfl).weak fun hq => hq)) ?_
 refine .al rfl ?_
 refine .al rfl ?_
 refine .dn fun a13 g W13 y13 zz13 hk hg hV hR hP => ?_
 obtain ⟨e5, e4, -, -, -, -, -, -, -, -, -, -, -, -, -, -⟩ := hV
 replace D_v := D_v.ext hk
 replace e4 := e4.q
 replace e5 := e5.q
 replace own_b3_2 := own_b3_2.ext hk
 replace own_b2_2 := own_b2_2.ext hk
 replace kw := kw.x hk
 clear hR hk hg hP
 refine zn (hK12 _ _ ?_)
 refine wp_ret ?_
 refine ret2 rfl zz13 e4 e5 ⟨_, rfl, kw, ?_⟩
 simp only [findI, findB, hasc, if_true]
 rw [find_fin]
end Go.Proofs.YtnobijngkpflcaaGreat
namespace Go.Eng
theorem idx_out (name : ByteArray) : ∀ (ns : List ByteArray) (i : Nat), (idx name ns i = -1 ∧ name ∉ ns) ∨ ∃ j, idx name ns i = ((i + j : Nat) : Int) ∧ ns[j]? = some name
  | [], i => .inl ⟨rfl, by simp⟩
  | n :: ns, i => by
    rw [idx]
    by_cases h : name = n
    · rw [if_pos h]; exact .inr ⟨0, by simp, by simp [h]⟩
    · rw [if_neg h]
      rcases idx_out name ns (i + 1) with ⟨h1, h2⟩ | ⟨j, h1, h2⟩
      · exact .inl ⟨h1, by simp [h, h2]⟩
      · exact .inr ⟨j + 1, by rw [h1]; congr 1; omega, by simpa using h2⟩
theorem find_at {ns : List ByteArray} {name : ByteArray} (h : findB ns name = true) : ∃ i : Nat, findI ns name = i ∧ ns[i]? = some name := by
  unfold findB at h
  unfold findI
  split at h
  · rename_i ha
    rw [if_pos ha]
    exact ⟨_, rfl, by simpa using h⟩
  · rename_i ha
    rw [if_neg ha]
    rcases idx_out name ns 0 with ⟨h1, _⟩ | ⟨j, h1, h2⟩
    · rw [h1] at h; simp at h
    · exact ⟨j, by rw [h1]; simp, h2⟩
def getV (x : V) (name : ByteArray) : V := if x.k ≠ 5 then V.zero else if findB x.ns name = false ∨ (x.xs.length : Int) ≤ findI x.ns name then V.zero else x.xs.getD (findI x.ns name).toNat V.zero
def getB (x : V) (name : ByteArray) : Bool := if x.k ≠ 5 then false else if findB x.ns name = false ∨ (x.xs.length : Int) ≤ findI x.ns name then false else true
theorem getV_in {x : V} {name : ByteArray} {i : Nat} (hk : ¬ x.k ≠ 5) (hn : ¬ (findB x.ns name = false ∨ (x.xs.length : Int) ≤ findI x.ns name)) (h : findI x.ns name = i) (hi : i < x.xs.length) : getV x name = x.xs[i] := by
  rw [getV, if_neg hk, if_neg hn, h]
  simp [List.getD_eq_getElem?_getD, hi]
end Go.Eng
namespace Go.Proofs.YtnobijngkpflcaaGreat
open Go.Eng
set_option maxRecDepth 100000 in
theorem Get_ok (x : V) (name : ByteArray) (hx : x.wt ≤ 1073741824) (w : World) (S : BSet) (v : Value) (hS : ∀ b o, S b o → Cln o) (hv : Rd w S x.d v) : Calls Tryz.prog 62 #[v, .string name] w (Ret w fun r W => ∃ r1, r = .tuple #[r1, .bool (getB x name)] ∧ Rd W (Fr w) (getV x name).d r1) := by
 have hwx := wt_eq x
 have hwl := wts_len x.xs
 have hwn := wtN_len x.ns
 obtain ⟨cn0a, cn0c, ci0a, ci0c, ev, ht0, D_cn0, D_ci0⟩ := rdV_out (rd_arg hv)
 subst ev
 refine enter Tryz.func62 rfl Tryz.ntmps62 (lbr rfl) fun a0 y0 zz0 harg => ?_
 have e0 : sl a0 0 = (.agg #[(.int .u8 (x.k)), (.int .i64 (x.n)), (.string (x.t)), (.slice cn0a (x.ns.length) cn0c), (.slice ci0a (x.xs.length) ci0c)]) := harg 0 (lbr rfl)
 have e1 : sl a0 1 = (.string (name)) := harg 1 (lbr rfl)
 have kw := Keeps.refl All w
 clear harg
 refine zq fun K1 hK1 => ?_
 refine rg mixed y0 zz0 ?_
 refine .boxOp (v := (.agg #[(.int .u8 (x.k)), (.int .i64 (x.n)), (.string (x.t)), (.slice cn0a (x.ns.length) cn0c), (.slice ci0a (x.xs.length) ci0c)])) (hbs rfl e0) ?_
 refine .alloc z26 ?_
 refine .ac ?_
 refine .dn fun a2 g W2 y2 zz2 hk hg hV hR hP => ?_
 obtain ⟨-, ⟨b4_2, e4, hb4, own_b4_2⟩, ⟨b2_2, e2, hb2, own_b2_2⟩, -⟩ := hV
 have lo_b4_2 : w.heap.size ≤ b4_2 := Nat.le_trans kw.size (hg.lo _ _ hb4)
 have own_b4_2 : Own W2 b4_2 [(.int .u8 (0)), (.int .i64 (0)), (.string (⟨#[]⟩)), (.slice none 0 0), (.slice none 0 0)] 26 := own_b4_2
 have lo_b2_2 : w.heap.size ≤ b2_2 := Nat.le_trans kw.size (hg.lo _ _ hb2)
 have own_b2_2 : Own W2 b2_2 [(.int .u8 (x.k)), (.int .i64 (x.n)), (.string (x.t)), (.slice cn0a (x.ns.length) cn0c), (.slice ci0a (x.xs.length) ci0c)] 26 := own_b2_2
 have ne_b4_2_b2_2 : b4_2 ≠ b2_2 := fun h => by have := hg.inj _ _ _ hb4 (h ▸ hb2); cases this
 replace e1 := ft hR e1
 replace D_cn0 := sa_more D_cn0 hk [b4_2, b2_2] (in_cons (hg.lo _ _ hb4) (in_cons (hg.lo _ _ hb2) in_nil))
 replace D_ci0 := sa_more D_ci0 hk [b4_2, b2_2] (in_cons (hg.lo _ _ hb4) (in_cons (hg.lo _ _ hb2) in_nil))
 replace kw := kw.x hk
 clear hR hk hg hP hb4 hb2
 refine zn (hK1 _ _ ?_)
 refine zq fun K3 hK3 => ?_
 refine zq fun K4 hK4 => ?_
 refine rg mixed y2 zz2 ?_
 refine .i (fo 0 (hbs rfl e2) Tryz.underlying26 rfl sz5 rfl) ?_
 refine .i (lo1 (hlc rfl) own_b2_2 trivial agg5 sz5 rfl) ?_
 refine .i (sp_neq (hlc rfl) Has.cst) ?_
 refine .dn fun a5 g W5 y5 zz5 hk hg hV hR hP => ?_
 obtain ⟨e10, -, -, -⟩ := hV
 replace e1 := ft hR e1
 replace e4 := ft hR e4
 replace e2 := ft hR e2
 replace D_cn0 := D_cn0.ext hk
 replace D_ci0 := D_ci0.ext hk
 replace e10 := e10.q
 replace own_b4_2 := own_b4_2.ext hk
 replace own_b2_2 := own_b2_2.ext hk
 replace kw := kw.x hk
 clear hR hk hg hP
 refine zn (hK4 _ _ ?_)
 refine zc e10 (fun hc => ?_) (fun hc => ?_)
 ·
  have hk : x.k ≠ 5 := by simp at hc; omega
  have hb : getB x name = false := by rw [getB, if_pos hk]
  have hv2 : getV x name = V.mk 0 0 ⟨#[]⟩ [] [] := by rw [getV, if_pos hk]; rfl
  refine zq fun K6 hK6 => ?_
  refine rg mixed y5 zz5 ?_
  refine .i (v := (.agg #[(.int .u8 (0)), (.int .i64 (0)), (.string (⟨#[]⟩)), (.slice none 0 0), (.slice none 0 0)])) (sp_build (vs := []) Tryz.underlying26 z26 (pl26 Tryz.underlying26) trivial rfl) ?_
  refine .dn fun a7 g W7 y7 zz7 hk hg hV hR hP => ?_
  obtain ⟨e11, -⟩ := hV
  replace e4 := ft hR e4
  replace D_cn0 := D_cn0.ext hk
  replace D_ci0 := D_ci0.ext hk
  replace e11 := e11.q
  replace own_b4_2 := own_b4_2.ext hk
  replace own_b2_2 := own_b2_2.ext hk
  replace kw := kw.x hk
  clear hR hk hg hP
  refine tail_store e4 e11 sz26 rfl own_b4_2 (lbr rfl) (all_cons rfl (all_cons rfl (all_cons rfl (all_cons rfl (all_cons rfl all_nil))))) (fun W8 hs own_b4_2 => ?_)
  have own_b4_2 : Own W8 b4_2 [(.int .u8 (0)), (.int .i64 (0)), (.string (⟨#[]⟩)), (.slice none 0 0), (.slice none 0 0)] 26 := own_b4_2
  replace own_b2_2 := own_store own_b2_2 hs ne_b4_2_b2_2.symm
  replace D_cn0 := sa_store D_cn0 hs (by simp)
  replace D_ci0 := sa_store D_ci0 hs (by simp)
  replace kw := keeps_store kw hs lo_b4_2
  clear hs
  refine tail_assign (v := (.bool (false))) rfl (by rw [y7]; exact Nat.le_of_ble_eq_true rfl) (fun a9 y9 zz9 e5 hr => ?_)
  replace y9 := y9.trans y7; replace zz9 := zz9.trans zz7
  replace e4 := (hr 4 (by decide)).trans e4
  replace e11 := (hr 11 (by decide)).trans e11
  clear hr
  refine zn (hK6 _ _ ?_)
  refine wp_ret ?_
  refine retCT (v := (.agg #[(.int .u8 (0)), (.int .i64 (0)), (.string (⟨#[]⟩)), (.slice none 0 0), (.slice none 0 0)])) rfl zz9 e4 own_b4_2 agg26 sz26 rfl (fun h => by cases h) rfl e5 ⟨_, rfl, kw, ?_⟩
  refine ⟨_, by rw [hb], ?_⟩
  rw [hv2]
  exact sf_fr (rdV_mk (lbr rfl) (rd_nil _) (rd_nil _) : Rd W8 (SF w [b4_2, b2_2]) (V.d (V.mk (0) (0) (⟨#[]⟩) ([]) ([]))) _)
 have hk : ¬ x.k ≠ 5 := by simp at hc; omega
 refine wp_skip (hK3 _ _ ?_)
 refine zq fun K10 hK10 => ?_
 refine rg mixed y5 zz5 ?_
 refine .i (fo 3 (hbs rfl e2) Tryz.underlying26 rfl sz23 rfl) ?_
 refine .i (lo1 (hlc rfl) own_b2_2 trivial agg23 sz23 rfl) ?_
 refine .mb rfl e1 ?_
 refine .i (v := (.tuple #[(.int .i64 (findI x.ns name)), (.bool (findB x.ns name))])) (sp_call2 (φ1 := IsD (SA w S [b4_2, b2_2]) (strsD (x.ns))) (φ2 := Is (.string (name))) ent78 ((hlc rfl).dat D_cn0 sub_all) (hlc rfl) (fun g u1 u2 W hk hgk h1 h2 => by have h2 : u2 = _ := h2; subst u2; exact find_ok (x.ns) (name) (by omega) W _ _ h1)) ?_
 refine .i (sp_move (hlc rfl)) ?_
 refine .i (v := (.int .i64 (findI x.ns name))) (sp_extT (hlc rfl) rfl) ?_
 refine .i (v := (.bool (findB x.ns name))) (sp_extT (hlc rfl) rfl) ?_
 refine .al rfl ?_
 refine .al rfl ?_
 refine .dn fun a11 g W11 y11 zz11 hk hg hV hR hP => ?_
 obtain ⟨e7, e6, -, -, -, -, -, -, -, -⟩ := hV
 replace e4 := ft hR e4
 replace e2 := ft hR e2
 replace D_cn0 := D_cn0.ext hk
 replace D_ci0 := D_ci0.ext hk
 replace e6 := e6.q
 replace e7 := e7.q
 replace own_b4_2 := own_b4_2.ext hk
 replace own_b2_2 := own_b2_2.ext hk
 replace kw := kw.x hk
 clear hR hk hg hP
 refine zn (hK10 _ _ ?_)
 refine zq fun K12 hK12 => ?_
 refine zq fun K13 hK13 => ?_
 refine rg mixed y11 zz11 ?_
 refine .mb rfl e7 ?_
 refine .i (sp_not (hlc rfl)) ?_
 refine .i (sp_move (hlc rfl)) ?_
 refine .em rfl (hlc rfl) rfl e6 ?_
 refine .e rfl (hlc rfl) (fun hg => fo 4 (hbs rfl e2) Tryz.underlying26 rfl sz24 rfl) ?_
 refine .e rfl (hlc rfl) (fun hg => lo1 ((hlc rfl).undE hg) own_b2_2 trivial agg24 sz24 rfl) ?_
 refine .e rfl (hlc rfl) (fun hg => sp_lenVs Tryz.underlying24 (((hlc rfl).undE hg).dat D_ci0 sub_all)) ?_
 refine .e rfl (hlc rfl) (fun hg => sp_geq ((hlc rfl).undE hg) ((hlc rfl).undE hg)) ?_
 refine .i (sp_or (hlc rfl) ((hlc rfl).weak fun hq => hq)) ?_
 refine .dn fun a14 g W14 y14 zz14 hk hg hV hR hP => ?_
 obtain ⟨e27, -, -, -, -, -, -, -, -, -⟩ := hV
 replace e4 := ft hR e4
 replace e2 := ft hR e2
 replace e6 := ft hR e6
 replace D_cn0 := D_cn0.ext hk
 replace D_ci0 := D_ci0.ext hk
 replace e27 := e27.q
 replace own_b4_2 := own_b4_2.ext hk
 replace own_b2_2 := own_b2_2.ext hk
 replace kw := kw.x hk
 clear hR hk hg hP
 refine zn (hK13 _ _ ?_)
 refine zc e27 (fun hc => ?_) (fun hc => ?_)
 ·
  have hn : findB x.ns name = false ∨ (x.xs.length : Int) ≤ findI x.ns name := by rcases (Bool.or_eq_true _ _).mp hc with h | h; exact .inl (by simpa using h); exact .inr (of_decide_eq_true h)
  have hb : getB x name = false := by rw [getB, if_neg hk, if_pos hn]
  have hv2 : getV x name = V.mk 0 0 ⟨#[]⟩ [] [] := by rw [getV, if_neg hk, if_pos hn]; rfl
  refine zq fun K15 hK15 => ?_
  refine rg mixed y14 zz14 ?_
  refine .i (v := (.agg #[(.int .u8 (0)), (.int .i64 (0)), (.string (⟨#[]⟩)), (.slice none 0 0), (.slice none 0 0)])) (sp_build (vs := []) Tryz.underlying26 z26 (pl26 Tryz.underlying26) trivial rfl) ?_
  refine .dn fun a16 g W16 y16 zz16 hk hg hV hR hP => ?_
  obtain ⟨e28, -⟩ := hV
  replace e4 := ft hR e4
  replace D_cn0 := D_cn0.ext hk
  replace D_ci0 := D_ci0.ext hk
  replace e28 := e28.q
  replace own_b4_2 := own_b4_2.ext hk
  replace own_b2_2 := own_b2_2.ext hk
  replace kw := kw.x hk
  clear hR hk hg hP
  refine tail_store e4 e28 sz26 rfl own_b4_2 (lbr rfl) (all_cons rfl (all_cons rfl (all_cons rfl (all_cons rfl (all_cons rfl all_nil))))) (fun W17 hs own_b4_2 => ?_)
  have own_b4_2 : Own W17 b4_2 [(.int .u8 (0)), (.int .i64 (0)), (.string (⟨#[]⟩)), (.slice none 0 0), (.slice none 0 0)] 26 := own_b4_2
  replace own_b2_2 := own_store own_b2_2 hs ne_b4_2_b2_2.symm
  replace D_cn0 := sa_store D_cn0 hs (by simp)
  replace D_ci0 := sa_store D_ci0 hs (by simp)
  replace kw := keeps_store kw hs lo_b4_2
  clear hs
  refine tail_assign (v := (.bool (false))) rfl (by rw [y16]; exact Nat.le_of_ble_eq_true rfl) (fun a18 y18 zz18 e5 hr => ?_)
  replace y18 := y18.trans y16; replace zz18 := zz18.trans zz16
  replace e4 := (hr 4 (by decide)).trans e4
  replace e28 := (hr 28 (by decide)).trans e28
  clear hr
  refine zn (hK15 _ _ ?_)
  refine wp_ret ?_
  refine retCT (v := (.agg #[(.int .u8 (0)), (.int .i64 (0)), (.string (⟨#[]⟩)), (.slice none 0 0), (.slice none 0 0)])) rfl zz18 e4 own_b4_2 agg26 sz26 rfl (fun h => by cases h) rfl e5 ⟨_, rfl, kw, ?_⟩
  refine ⟨_, by rw [hb], ?_⟩
  rw [hv2]
  exact sf_fr (rdV_mk (lbr rfl) (rd_nil _) (rd_nil _) : Rd W17 (SF w [b4_2, b2_2]) (V.d (V.mk (0) (0) (⟨#[]⟩) ([]) ([]))) _)
 have hfb : findB x.ns name = true := by simpa using (Bool.or_eq_false_iff.1 hc).1
 have hfi := of_decide_eq_false (Bool.or_eq_false_iff.1 hc).2
 have hn : ¬ (findB x.ns name = false ∨ (x.xs.length : Int) ≤ findI x.ns name) := by rintro (h | h); rw [hfb] at h; cases h; exact hfi h
 obtain ⟨at_, hat, hatn⟩ := find_at hfb
 have hatx : at_ < x.xs.length := by omega
 have hb : getB x name = true := by rw [getB, if_neg hk, if_neg hn]
 have hv2 := getV_in hk hn hat hatx
 have hwm := wts_mem hatx
 refine wp_skip (hK12 _ _ ?_)
 refine zq fun K19 hK19 => ?_
 refine rg mixed y14 zz14 ?_
 refine .i (fo 4 (hbs rfl e2) Tryz.underlying26 rfl sz24 rfl) ?_
 refine .i (lo1 (hlc rfl) own_b2_2 trivial agg24 sz24 rfl) ?_
 refine .mb rfl e6 ?_
 refine .rf (sp_indexV (i := at_) ((hlc rfl).dat D_ci0 sub_all) (hlc rfl) Tryz.underlying24 sz26 hat hatx) ?_
 refine .da (sp_loadV (hlc rfl) agg26 sz26) ?_
 refine .da (X := Fr W14) (e := V.d (x.xs[at_]'hatx)) (sp_call1 (φ1 := IsD (SA w S [b4_2, b2_2]) (V.d (x.xs[at_]'hatx))) ent56 (hlc rfl) (fun g u1 W hk hgk h1 => (Copy_ok (x.xs[at_]'hatx) (by first | omega | exact Nat.le_of_ble_eq_true (by kernel_rfl)) W _ _ (fun b o h => sa_cln hS b o h.1) h1).mono (ret_fr hk hgk))) ?_
 refine .dn fun a20 g W20 y20 zz20 hk hg hV hR hP => ?_
 obtain ⟨e34, -, -, -, -, -, -⟩ := hV
 replace e4 := ft hR e4
 replace D_cn0 := D_cn0.ext hk
 replace D_ci0 := D_ci0.ext hk
 obtain ⟨v34_20, ev⟩ : ∃ v, sl a20 34 = v := ⟨_, rfl⟩
 rw [ev] at e34
 have D_v34_20 : Rd W20 (SF w [b4_2, b2_2]) (V.d (x.xs[at_]'hatx)) v34_20 := fr_end (M := [b4_2, b2_2]) e34 kw [] in_nil (in_cons own_b4_2.lt (in_cons own_b2_2.lt in_nil))
 replace e34 := ev; clear ev
 obtain ⟨cn34_20a, cn34_20c, ci34_20a, ci34_20c, ev, ht_v34_20, D_cn34_20, D_ci34_20⟩ := rdV_out D_v34_20
 subst ev; clear D_v34_20
 replace own_b4_2 := own_b4_2.ext hk
 replace own_b2_2 := own_b2_2.ext hk
 replace kw := kw.x hk
 clear hR hk hg hP
 refine tail_store e4 e34 sz26 rfl own_b4_2 (lbr rfl) (all_cons rfl (all_cons rfl (all_cons rfl (all_cons rfl (all_cons rfl all_nil))))) (fun W21 hs own_b4_2 => ?_)
 have own_b4_2 : Own W21 b4_2 [(.int .u8 ((x.xs[at_]'hatx).k)), (.int .i64 ((x.xs[at_]'hatx).n)), (.string ((x.xs[at_]'hatx).t)), (.slice cn34_20a (((x.xs[at_]'hatx).ns).length) cn34_20c), (.slice ci34_20a (((x.xs[at_]'hatx).xs).length) ci34_20c)] 26 := own_b4_2
 replace own_b2_2 := own_store own_b2_2 hs ne_b4_2_b2_2.symm
 replace D_cn0 := sa_store D_cn0 hs (by simp)
 replace D_ci0 := sa_store D_ci0 hs (by simp)
 replace D_cn34_20 := sf_store D_cn34_20 hs (by simp)
 replace D_ci34_20 := sf_store D_ci34_20 hs (by simp)
 replace kw := keeps_store kw hs lo_b4_2
 clear hs
 refine tail_assign (v := (.bool (true))) rfl (by rw [y20]; exact Nat.le_of_ble_eq_true rfl) (fun a22 y22 zz22 e5 hr => ?_)
 replace y22 := y22.trans y20; replace zz22 := zz22.trans zz20
 replace e4 := (hr 4 (by decide)).trans e4
 replace e34 := (hr 34 (by decide)).trans e34
 clear hr
 refine zn (hK19 _ _ ?_)
 refine wp_ret ?_
 refine retCT (v := (.agg #[(.int .u8 ((x.xs[at_]'hatx).k)), (.int .i64 ((x.xs[at_]'hatx).n)), (.string ((x.xs[at_]'hatx).t)), (.slice cn34_20a (((x.xs[at_]'hatx).ns).length) cn34_20c), (.slice ci34_20a (((x.xs[at_]'hatx).xs).length) ci34_20c)])) rfl zz22 e4 own_b4_2 agg26 sz26 rfl (fun h => by cases h) rfl e5 ⟨_, rfl, kw, ?_⟩
 refine ⟨_, by rw [hb], ?_⟩
 rw [hv2]
 exact sf_fr (rdV_in (x := (x.xs[at_]'hatx)) ht_v34_20 D_cn34_20 D_ci34_20 : Rd W21 (SF w [b4_2, b2_2]) (V.d ((x.xs[at_]'hatx))) _)
end Go.Proofs.YtnobijngkpflcaaGreat
namespace Go.Eng
section
variable {P : Program} {Q : Exit → Act → World → Prop} {a : Act} {w : World}
def LoopAt (P : Program) (c : Code) (Q : Exit → Act → World → Prop) (a : Act) (w : World) : Prop :=
  ∀ b k cs, ∃ e a' w', Q e a' w' ∧ Arrives P (lone (b.at a (.code c :: .inLoop c :: k)) cs w) b k cs e a' w'
theorem wp_loopAt {c : Code} (h : LoopAt P c Q a w) : (Code.loop c).wp P Q a w := by
  intro b k cs
  obtain ⟨e, a', w', hq, harr⟩ := h b k cs
  exact ⟨e, a', w', hq, .of_steps (.one step_loop) harr⟩
theorem loopAt {c : Code} (h : c.wp P (Exit.then (fun a' w' => LoopAt P c Q a' w') Q) a w) : LoopAt P c Q a w := by
  intro b k cs
  obtain ⟨e, a₁, w₁, hq, harr⟩ := h b (.inLoop c :: k) cs
  cases e with
  | normal =>
    obtain ⟨e₂, a₂, w₂, hq₂, harr₂⟩ := hq b k cs
    exact ⟨e₂, a₂, w₂, hq₂, .of_steps (Steps.trans harr (.one step_inLoop)) harr₂⟩
  | exit id => exact ⟨_, a₁, w₁, hq, .pass (x := .inLoop c) rfl (fun _ _ => .inl (by simp)) harr⟩
  | goto l => exact ⟨_, a₁, w₁, hq, .pass (x := .inLoop c) rfl (fun _ _ => .inl (by simp)) harr⟩
  | ret => exact ⟨_, a₁, w₁, hq, .pass (x := .inLoop c) rfl (fun _ _ => .inl (by simp)) harr⟩
  | panic ch => exact ⟨_, a₁, w₁, hq, .pass (x := .inLoop c) rfl (fun _ _ => .inl (by simp)) harr⟩
  | outgrown => exact ⟨_, a₁, w₁, hq, .pass (x := .inLoop c) rfl (fun _ _ => .inl (by simp)) harr⟩
end
theorem RowIs.set {W : World} {X : BSet} {sz : Nat} {d : D} {c : List Value} (hl : c.length = sz) (h : RdC W X d c) : ∀ {ds : List D} {cs : List Value} (i : Nat), i < ds.length → RowIs W X sz ds cs → RowIs W X sz (ds.set i d) (splice cs (i * sz) c)
  | [], _, i, hi, _ => by simp at hi
  | e :: ds, cs, 0, _, hr => by
    simp only [RowIs] at hr
    obtain ⟨c1, r, rfl, h1, h2, h3⟩ := hr
    simp only [List.set_cons_zero, RowIs]
    exact ⟨c, r, by simp [splice, hl, ← h1], hl, h, h3⟩
  | e :: ds, cs, i + 1, hi, hr => by
    simp only [RowIs] at hr
    obtain ⟨c1, r, rfl, h1, h2, h3⟩ := hr
    simp only [List.set_cons_succ, RowIs]
    refine ⟨c1, splice r (i * sz) c, ?_, h1, h2, RowIs.set hl h i (by simpa using hi) h3⟩
    unfold splice
    rw [Nat.add_mul, Nat.one_mul, Nat.add_comm (i * sz) sz, ← h1, List.take_append, List.drop_append]
    simp [List.take_of_length_le, Nat.add_assoc]
theorem arr_open {W : World} {lo : Nat} {e : TypeId} {sz : Nat} {X : BSet} {ds : List D} {v : Value} {hd : Option Nat} (h : Arr W lo e sz X ds v hd) (hn : 0 < ds.length) : ∃ g cap, v = .slice (some ⟨g, 0, none⟩) ds.length cap ∧ hd = some g := by
  obtain ⟨h1, cs, h2, _⟩ := h
  rcases h2.2 with ⟨_, h0⟩ | ⟨g, cap, cur, rfl, _⟩
  · omega
  · exact ⟨g, cap, rfl, h1.symm⟩
section
variable {P : Program} {ops : Array Oper} {S : Nat → Prop} {w0 : World} {a0 : Act} {Γ : Ctx}
variable {d : Option Tmp} {ty : TypeId} {pos : String} {af : Array Edge} {gd : Option (Nat × Bool)}
theorem sp_rem {x y : Operand} {k : IntKind} {m n : Int} {T T' : TypeId} (hx : Has S w0 a0 Γ x (Is (.int k m))) (hy : Has S w0 a0 Γ y (Is (.int k n))) (hn : n ≠ 0) : Spec P ops S w0 a0 Γ ⟨d, .binOp .rem T x y T', ty, pos, af, gd⟩ (Is (.int k (m.tmod n))) := sp_val fun a g W hk hg he => by
  have e1 : a.eval x = .int k m := hx.of_env hk hg he (by simp [Op.operands])
  have e2 : a.eval y = .int k n := hy.of_env hk hg he (by simp [Op.operands])
  simp [execOp, e1, e2, binOp, Op.intArith, Op.intDiv, eqGuard, hn]
end
theorem rdC_zV (W : World) (X : BSet) : RdC W X (V.d V.zero) [.int .u8 0, .int .i64 0, .string ⟨#[]⟩, .slice none 0 0, .slice none 0 0] := by
  rw [V.d_eq]; simp only [RdC]; exact zV W X
end Go.Eng
namespace Go.Eng
theorem u8_in {n : Int} (h : 0 ≤ n ∧ n < 256) : IntKind.u8.wrap n = n := by
  simp only [IntKind.wrap, IntKind.signed, IntKind.bits]
  simp
  omega
abbrev As := List (ByteArray × Int)
def mget : As → ByteArray → Int
  | [], _ => 0
  | (s, n) :: r, k => if k = s then n else mget r k
def mset : As → ByteArray → Int → As
  | [], k, n => [(k, n)]
  | (s, m) :: r, k, n => if k = s then (s, n) :: r else (s, m) :: mset r k n
def midx : As → ByteArray → Option (Nat × Int)
  | [], _ => none
  | (s, n) :: r, k => if k = s then some (0, n) else (midx r k).map fun q => (q.1 + 1, q.2)
theorem mget_set (A : As) (k j : ByteArray) (n : Int) : mget (mset A k n) j = if j = k then n else mget A j := by
  induction A with
  | nil => simp only [mset, mget]
  | cons q A ih =>
    obtain ⟨s, m⟩ := q
    simp only [mset]
    by_cases h : k = s
    · subst h
      rw [if_pos rfl]
      simp only [mget]
      by_cases hj : j = k <;> simp [hj]
    · rw [if_neg h]
      simp only [mget, ih]
      by_cases hj : j = s
      · subst hj
        have : ¬ j = k := fun e => h e.symm
        simp [this]
      · simp [hj]
theorem midx_get (A : As) (k : ByteArray) : mget A k = match midx A k with | none => 0 | some q => q.2 := by
  induction A with
  | nil => rfl
  | cons q A ih =>
    obtain ⟨s, m⟩ := q
    simp only [mget, midx]
    by_cases h : k = s
    · simp [h]
    · simp only [h, if_false, ih]
      cases midx A k <;> rfl
def MapIs (es : List MapEntry) (A : As) : Prop := es.map (fun e => (e.key, e.val)) = A.map fun q => (Value.string q.1, Value.int .i64 q.2)
def OwnM (W : World) (b : Nat) (A : As) : Prop := ∃ es clock, W.heap[b]? = some (.map es clock) ∧ MapIs es.toList A
theorem OwnM.lt {W : World} {b : Nat} {A : As} (h : OwnM W b A) : b < W.heap.size := by
  obtain ⟨_, _, h, _⟩ := h; exact (Array.getElem?_eq_some_iff.1 h).1
theorem OwnM.keeps {W W' : World} {b : Nat} {A : As} {S : Nat → Prop} (h : OwnM W b A) (k : Keeps S W W') (hs : S b) : OwnM W' b A := by
  obtain ⟨es, c, h1, h2⟩ := h
  exact ⟨es, c, (k.block b (Array.getElem?_eq_some_iff.1 h1).1 hs).trans h1, h2⟩
theorem OwnM.ext {W W' : World} {b : Nat} {A : As} (h : OwnM W b A) (k : Ext W W') : OwnM W' b A := h.keeps k trivial
theorem ownM_store {W W' : World} {b b' : Nat} {A : As} (h : OwnM W b' A) (k : Keeps (fun x => x ≠ b) W W') (hne : b' ≠ b) : OwnM W' b' A := h.keeps k hne
theorem find_now (k : ByteArray) : ∀ (es : List MapEntry) (A : As) (i : Nat), MapIs es A → Instr.findNow .string (.string k) es i = some ((midx A k).map fun q => (i + q.1, .int .i64 q.2))
  | [], A, i, h => by
    have : A = [] := by simpa [MapIs] using h
    subst this; rfl
  | e :: es, [], i, h => by simp [MapIs] at h
  | e :: es, (s, n) :: A, i, h => by
    simp only [MapIs, List.map_cons, List.cons.injEq, Prod.mk.injEq] at h
    obtain ⟨⟨h1, h2⟩, h3⟩ := h
    unfold Instr.findNow
    simp only [h1, Instr.sameNow, midx]
    by_cases hk : k = s
    · subst hk
      have hb : (k == k) = true := (MapKept.bytes_beq k k).2 rfl
      simp [hb, h2]
    · have hb : (k == s) = false := by
        cases hq : (k == s) with
        | false => rfl
        | true => exact absurd ((MapKept.bytes_beq k s).1 hq) hk
      simp only [hb, hk, if_false]
      rw [find_now k es A (i + 1) h3]
      cases midx A k with
      | none => rfl
      | some q => simp; omega
theorem midx_at (k : ByteArray) : ∀ (A : As) (j : Nat) (n : Int), midx A k = some (j, n) → ∃ h : j < A.length, A[j] = (k, n) ∧ mset A k = fun m => A.set j (k, m)
  | [], j, n, h => by cases h
  | (s, m) :: A, j, n, h => by
    simp only [midx] at h
    by_cases hk : k = s
    · subst hk
      simp at h
      obtain ⟨rfl, rfl⟩ := h
      exact ⟨by simp, rfl, by funext q; simp [mset]⟩
    · rw [if_neg hk] at h
      cases hq : midx A k with
      | none => rw [hq] at h; cases h
      | some q =>
        rw [hq] at h
        simp at h
        obtain ⟨rfl, rfl⟩ := h
        obtain ⟨h1, h2, h3⟩ := midx_at k A q.1 q.2 (by rw [hq])
        refine ⟨by simpa using h1, by simpa using h2, ?_⟩
        funext x
        simp [mset, hk, h3]
theorem midx_none (k : ByteArray) : ∀ A : As, midx A k = none → ∀ n, mset A k n = A ++ [(k, n)]
  | [], _, n => rfl
  | (s, m) :: A, h, n => by
    simp only [midx] at h
    by_cases hk : k = s
    · rw [if_pos hk] at h; cases h
    · rw [if_neg hk] at h
      simp only [mset, hk, if_false, List.cons_append]
      rw [midx_none k A (by cases hq : midx A k with | none => rfl | some q => rw [hq] at h; cases h) n]
section
variable {P : Program} {ops : Array Oper} {S : Nat → Prop} {w0 : World} {a0 : Act} {Γ : Ctx}
variable {d : Option Tmp} {ty : TypeId} {pos : String} {af : Array Edge} {gd : Option (Nat × Bool)}
variable {K : List Oper → Ctx → (World → Prop) → List Bool → Prop} {l : List Oper} {Ψ Ψ' : World → Prop} {ms : List Bool} {fl : Bool}
theorem run_lookupM {W : World} {b : Nat} {A : As} {T kt et : TypeId} {k : ByteArray} (hT : P.underlying T = some (.map kt et)) (hk : P.underlying kt = some .string) (hz : zeroOf P et = some (.int .i64 0)) (h : OwnM W b A) :
    (Instr.lookup T (.map (some b)) (.string k) false).run P W = .ok (.int .i64 (mget A k)) W := by
  obtain ⟨es, c, h1, h2⟩ := h
  have hf := find_now k es.toList A 0 h2
  have hck := MapKept.run_checkKey (P := P) (w := W) (kt := kt) (d := .string) (k := .string k) hk trivial es.isEmpty 9999
  have hfk := MapKept.run_findKey (P := P) (w := W) hk hf
  have hzz : (zeroValue et).run P W = .ok (.int .i64 0) W := by
    unfold zeroOf at hz
    cases hi : P.info? et with
    | none => rw [hi] at hz; cases hz
    | some i => rw [hi] at hz; simp at hz; simp [zeroValue, typeInfo, program, Sem.run, hi, hz]
  have hg : (getObj b).run P W = .ok (.map es c) W := by simp [getObj, Sem.run, h1]
  rw [midx_get]
  simp only [Instr.lookup, Sem.run_bind, run_und hT, Result.andThen_ok, hg, Sem.run_pure, hck, hfk]
  cases midx A k with
  | none => simp [hzz]
  | some q => simp
theorem sp_lookup {x y : Operand} {b : Nat} {A : As} {T kt et : TypeId} {k : ByteArray} (hT : P.underlying T = some (.map kt et)) (hk : P.underlying kt = some .string) (hz : zeroOf P et = some (.int .i64 0)) (hx : Has S w0 a0 Γ x (Is (.map (some b)))) (hy : Has S w0 a0 Γ y (Is (.string k))) (h : OwnM w0 b A) (hS : S b) :
    Spec P ops S w0 a0 Γ ⟨d, .lookup T x y false, ty, pos, af, gd⟩ (Is (.int .i64 (mget A k))) := sp_val fun a g W hk' hg he => by
  have e1 : a.eval x = .map (some b) := hx.of_env hk' hg he (by simp [Op.operands])
  have e2 : a.eval y = .string k := hy.of_env hk' hg he (by simp [Op.operands])
  simp [execOp, e1, e2, run_lookupM hT hk hz (h.keeps hk' hS)]
def IsMap (A : As) (t : Nat) : Fact := fun g u W => ∃ b, u = .map (some b) ∧ (t, b) ∈ g ∧ OwnM W b A
theorem st_map {A : As} {t : Nat} : Stable All (IsMap A t) :=
  ⟨fun _ _ _ _ k ⟨b, h1, h2, h3⟩ => ⟨b, h1, h2, h3.ext k⟩, fun _ _ _ _ _ _ ⟨b, h1, h2, h3⟩ => ⟨b, h1, List.mem_cons_of_mem _ h2, h3⟩⟩
theorem Chain.mkMap {t : Nat} {T : TypeId} (h : Chain P ops All w0 a0 K fl l ((some t, IsMap [] t) :: Γ) Ψ (false :: ms)) :
    Chain P ops All w0 a0 K fl (⟨some t, .makeMap T none, ty, pos, af, none⟩ :: l) Γ Ψ ms := by
  refine .box _ t st_map rfl (fun a g W hk hg he => ?_) h
  have hw : Region.wanted (⟨some t, .makeMap T none, ty, pos, af, none⟩ : Oper) (yielded ops a.tmps) = true := rfl
  unfold ObRun; rw [if_pos hw]
  unfold OpRuns
  have : (execOp a.eval ⟨some t, .makeMap T none, ty, pos, af, none⟩).run P W = .ok (.value (.map (some W.heap.size))) (W.alloc (.map #[] 0)) := by
    simp [execOp, Instr.makeMap, newObj, Sem.run]
  rw [this]
  exact ⟨ext_alloc _ _, by simp, W.heap.size, rfl, List.mem_cons_self, #[], 0, by show (W.heap.push _)[W.heap.size]? = _; simp, rfl⟩
theorem run_updM {W : World} {b : Nat} {A : As} {T kt et : TypeId} {k : ByteArray} {n : Int} (hT : P.underlying T = some (.map kt et)) (hk : P.underlying kt = some .string) (h : OwnM W b A) :
    ∃ W', (Instr.mapUpdate T (.map (some b)) (.string k) (.int .i64 n)).run P W = .ok () W' ∧ Keeps (fun x => x ≠ b) W W' ∧ OwnM W' b (mset A k n) := by
  obtain ⟨es, c, h1, h2⟩ := h
  have hf := find_now k es.toList A 0 h2
  have hck := MapKept.run_checkKey (P := P) (w := W) (kt := kt) (d := .string) (k := .string k) hk trivial false 9999
  have hfk := MapKept.run_findKey (P := P) (w := W) hk hf
  have hg : (getObj b).run P W = .ok (.map es c) W := by simp [getObj, Sem.run, h1]
  have keeps : ∀ o, Keeps (fun x => x ≠ b) W { W with heap := W.heap.setIfInBounds b o } := fun o => ⟨rfl, rfl, rfl, by simp, fun x _ hx => (MapKept.heap_set h1).2 x hx⟩
  cases hm : midx A k with
  | none =>
    rw [hm] at hfk
    refine ⟨_, ?_, keeps (.map (es.push { key := .string k, val := .int .i64 n, born := c }) (c + 1)), _, _, (MapKept.heap_set h1).1, ?_⟩
    · simp only [Instr.mapUpdate, Sem.run_bind, run_und hT, Result.andThen_ok, hg, hck, hfk, Option.map_none]
      exact MapKept.run_setObj_map _ h1
    · rw [midx_none k A hm]
      simp only [MapIs, Array.toList_push, List.map_append, List.map_cons, List.map_nil]
      rw [h2]
  | some q =>
    rw [hm] at hfk
    obtain ⟨hj, hA, hset⟩ := midx_at k A q.1 q.2 hm
    have hlen : es.size = A.length := by have := congrArg List.length h2; simpa using this
    have hje : q.1 < es.size := by omega
    have hkey : (es[q.1]'hje).key = .string k := by
      have h3 : (es.toList.map (fun e => (e.key, e.val)))[q.1]? = (A.map fun q => (Value.string q.1, Value.int .i64 q.2))[q.1]? := congrArg (·[q.1]?) h2
      simp [hje, hj, hA] at h3
      exact h3.1
    refine ⟨_, ?_, keeps (.map (es.modify q.1 fun e => { e with key := .string k, val := .int .i64 n }) c), _, _, (MapKept.heap_set h1).1, ?_⟩
    · simp only [Instr.mapUpdate, Sem.run_bind, run_und hT, Result.andThen_ok, hg, hck, hfk, Option.map_some, Nat.zero_add]
      have hst : (Instr.keyThatStays (((es[q.1]?).map (·.key)).getD (.string k)) (.string k)).run P W = .ok (.string k) W := by
        have hb : (k == k) = true := (MapKept.bytes_beq k k).2 rfl
        simp [hje, hkey, Instr.keyThatStays, Instr.sameBits, hb]
      rw [hst]
      simp only [Result.andThen_ok]
      exact MapKept.run_setObj_map _ h1
    · rw [hset]
      simp only [MapIs]
      apply List.ext_getElem?
      intro i
      have h3 : (es.toList.map (fun e => (e.key, e.val)))[i]? = (A.map fun q => (Value.string q.1, Value.int .i64 q.2))[i]? := congrArg (·[i]?) h2
      by_cases hi : q.1 = i
      · subst hi
        simp [Array.getElem?_modify, hje, hj]
      · simp only [List.getElem?_map, Array.getElem?_toList, Array.getElem?_modify, hi, if_false, List.getElem?_set_ne hi] at h3 ⊢
        exact h3
theorem tail_updM {Q : Exit → Act → World → Prop} {r : List Oper} {a : Act} {W : World} {T kt et : TypeId} {x y z : Operand} {b : Nat} {A : As} {k : ByteArray} {n : Int}
    (hT : P.underlying T = some (.map kt et)) (hk : P.underlying kt = some .string) (hx : a.eval x = .map (some b)) (hy : a.eval y = .string k) (hz : a.eval z = .int .i64 n) (ho : OwnM W b A)
    (h : ∀ W', Keeps (fun k => k ≠ b) W W' → OwnM W' b (mset A k n) → runTail P ops Q r a W') : runTail P ops Q (⟨none, .mapUpdate T x y z, ty, pos, af, none⟩ :: r) a W := by
  obtain ⟨W', h1, h2, h3⟩ := run_updM (n := n) (k := k) hT hk ho
  have hw : Region.wanted (⟨none, .mapUpdate T x y z, ty, pos, af, none⟩ : Oper) (yielded ops a.tmps) = true := rfl
  unfold runTail ObRun; rw [if_pos hw]
  unfold OpRuns
  have : (execOp a.eval ⟨none, .mapUpdate T x y z, ty, pos, af, none⟩).run P W = .ok .skip W' := by simp [execOp, hx, hy, hz, h1]
  rw [this]
  exact h W' h2 h3
theorem sp_indexStr {x y : Operand} {T : TypeId} {s : ByteArray} {j : Int} {i : Nat} (hT : P.underlying T = some .string) (hx : Has S w0 a0 Γ x (Is (.string s))) (hy : Has S w0 a0 Γ y (Is (.int .i64 j))) (hj : j = i) (hi : i < s.size) :
    Spec P ops S w0 a0 Γ ⟨d, .index T x y, ty, pos, af, gd⟩ (Is (.int .u8 ((s[i]'hi).toNat : Nat))) := sp_val fun a g W hk hg he => by
  have e1 : a.eval x = .string s := hx.of_env hk hg he (by simp [Op.operands])
  have e2 : a.eval y = .int .i64 j := hy.of_env hk hg he (by simp [Op.operands])
  subst hj
  have hs : s[(i : Int).toNat]? = some (s[i]'hi) := by simp [hi]
  have h0 : (0 : Int) ≤ (i : Int) := by omega
  simp [execOp, e1, e2, Instr.index, asIntOf, run_und hT, h0, hi]
end
end Go.Eng
namespace Go.Eng
structure Au where
  th : Int
  ids : List ByteArray
def Au.d (a : Au) : D := .agg [.int .i64 a.th, strsD a.ids]
structure Mb where
  nm : ByteArray
  v : V
def Mb.d (a : Mb) : D := .agg [.str a.nm, a.v.d]
def mbsD (l : List Mb) : D := .lst 6 (l.map Mb.d)
structure Hs where
  al : ByteArray
  hx : ByteArray
def Hs.d (a : Hs) : D := .agg [.str a.al, .str a.hx]
def hssD (l : List Hs) : D := .lst 2 (l.map Hs.d)
structure Rc where
  ln : Int
  hs : List Hs
  cu : V
def Rc.d (a : Rc) : D := .agg [.int .i64 a.ln, hssD a.hs, a.cu.d]
section
variable {W : World} {S : BSet} {v : Value}
theorem rdL_out {sz : Nat} {ds : List D} {n : Nat} (hn : ds.length = n) (h : Rd W S (.lst sz ds) v) : ∃ ad cap, v = .slice ad n cap ∧ Rd W S (.lst sz ds) (.slice ad n cap) := by
  have h' := h
  obtain ⟨cs, h1, h2⟩ := h
  simp only [RdC] at h1
  obtain ⟨ad, cap, rfl, _⟩ := h1
  have e : v = .slice ad n cap := by rw [h2, hn]; rfl
  exact ⟨ad, cap, e, e ▸ h'⟩
theorem rdMbs_out {l : List Mb} (h : Rd W S (mbsD l) v) : ∃ ad cap, v = .slice ad l.length cap ∧ Rd W S (mbsD l) (.slice ad l.length cap) := rdL_out (by simp) h
theorem rdHss_out {l : List Hs} (h : Rd W S (hssD l) v) : ∃ ad cap, v = .slice ad l.length cap ∧ Rd W S (hssD l) (.slice ad l.length cap) := rdL_out (by simp) h
theorem rdHs_out {a : Hs} (h : Rd W S a.d v) : v = .agg #[.string a.al, .string a.hx] ∧ a.al.size ≤ maxLen ∧ a.hx.size ≤ maxLen := by
  obtain ⟨cs, h1, rfl⟩ := h
  simp only [Hs.d, RdC, RdF] at h1
  obtain ⟨_, _, rfl, ⟨rfl, h2⟩, _, _, rfl, ⟨rfl, h3⟩, rfl⟩ := h1
  exact ⟨rfl, h2, h3⟩
theorem rdHs_mk {al hx : ByteArray} (h1 : al.size ≤ maxLen) (h2 : hx.size ≤ maxLen) : Rd W S (Hs.d ⟨al, hx⟩) (.agg #[.string al, .string hx]) :=
  ⟨[.string al, .string hx], by simp only [Hs.d, RdC, RdF]; exact ⟨[_], _, rfl, ⟨rfl, h1⟩, [_], [], rfl, ⟨rfl, h2⟩, rfl⟩, rfl⟩
theorem vcells {x : V} {cs : List Value} (h : RdC W S x.d cs) : ∃ a1 c1 a2 c2, cs = [.int .u8 x.k, .int .i64 x.n, .string x.t, .slice a1 x.ns.length c1, .slice a2 x.xs.length c2] ∧ x.t.size ≤ maxLen ∧ Rd W S (strsD x.ns) (.slice a1 x.ns.length c1) ∧ Rd W S (valsD x.xs) (.slice a2 x.xs.length c2) := by
  obtain ⟨a1, c1, a2, c2, e, h1, h2, h3⟩ := rdV_out (⟨cs, h, rfl⟩ : Rd W S x.d (asm x.d cs))
  refine ⟨a1, c1, a2, c2, ?_, h1, h2, h3⟩
  rw [V.d_eq] at e
  simp only [asm, Value.agg.injEq] at e
  have := congrArg Array.toList e
  simpa using this
theorem rdcV {x : V} {cs : Array Value} (h : Rd W S x.d (.agg cs)) : RdC W S x.d cs.toList := by
  obtain ⟨c, h1, e⟩ := h
  rw [V.d_eq] at e
  simp only [asm, Value.agg.injEq] at e
  subst e; simpa using h1
theorem rdMb_out {a : Mb} (h : Rd W S a.d v) : ∃ a1 c1 a2 c2, v = .agg #[.string a.nm, .int .u8 a.v.k, .int .i64 a.v.n, .string a.v.t, .slice a1 a.v.ns.length c1, .slice a2 a.v.xs.length c2] ∧ a.nm.size ≤ maxLen ∧ a.v.t.size ≤ maxLen ∧ Rd W S (strsD a.v.ns) (.slice a1 a.v.ns.length c1) ∧ Rd W S (valsD a.v.xs) (.slice a2 a.v.xs.length c2) := by
  obtain ⟨cs, h1, rfl⟩ := h
  simp only [Mb.d, RdC, RdF] at h1
  obtain ⟨_, _, rfl, ⟨rfl, h2⟩, c2, _, rfl, h3, rfl⟩ := h1
  obtain ⟨a1, c1, a2, c2', rfl, h4, h5, h6⟩ := vcells h3
  exact ⟨a1, c1, a2, c2', rfl, h2, h4, h5, h6⟩
theorem rdMb_mk {nm : ByteArray} {x : V} {c1 c2 c3 c4 c5 : Value} (h : nm.size ≤ maxLen) (hv : Rd W S x.d (.agg #[c1, c2, c3, c4, c5])) : Rd W S (Mb.d ⟨nm, x⟩) (.agg #[.string nm, c1, c2, c3, c4, c5]) :=
  ⟨[.string nm, c1, c2, c3, c4, c5], by simp only [Mb.d, RdC, RdF]; exact ⟨[_], _, rfl, ⟨rfl, h⟩, [c1, c2, c3, c4, c5], [], rfl, rdcV hv, rfl⟩, rfl⟩
theorem rdRc_out {a : Rc} (h : Rd W S a.d v) : ∃ a0 c0 a1 c1 a2 c2, v = .agg #[.int .i64 a.ln, .slice a0 a.hs.length c0, .int .u8 a.cu.k, .int .i64 a.cu.n, .string a.cu.t, .slice a1 a.cu.ns.length c1, .slice a2 a.cu.xs.length c2] ∧ a.cu.t.size ≤ maxLen ∧ Rd W S (hssD a.hs) (.slice a0 a.hs.length c0) ∧ Rd W S (strsD a.cu.ns) (.slice a1 a.cu.ns.length c1) ∧ Rd W S (valsD a.cu.xs) (.slice a2 a.cu.xs.length c2) := by
  obtain ⟨cs, h1, rfl⟩ := h
  simp only [Rc.d, RdC, RdF] at h1
  obtain ⟨_, _, rfl, rfl, c2, _, rfl, h2, c3, _, rfl, h3, rfl⟩ := h1
  obtain ⟨c, rfl⟩ : ∃ c, c2 = [c] := by simp only [hssD, RdC] at h2; obtain ⟨a, cap, e, _⟩ := h2; exact ⟨_, e⟩
  obtain ⟨a0, c0, e0, h5⟩ := rdHss_out (rd_one1 h2 rfl)
  subst e0
  obtain ⟨a1, c1, a2, c2', rfl, h4, h6, h7⟩ := vcells h3
  exact ⟨a0, c0, a1, c1, a2, c2', rfl, h4, h5, h6, h7⟩
theorem rdRc_mk {ln : Int} {hs : List Hs} {x : V} {c0 c1 c2 c3 c4 c5 : Value} (h : Rd W S (hssD hs) c0) (hv : Rd W S x.d (.agg #[c1, c2, c3, c4, c5])) : Rd W S (Rc.d ⟨ln, hs, x⟩) (.agg #[.int .i64 ln, c0, c1, c2, c3, c4, c5]) :=
  ⟨[.int .i64 ln, c0, c1, c2, c3, c4, c5], by simp only [Rc.d, RdC, RdF]; exact ⟨[_], _, rfl, rfl, [c0], _, rfl, rdc_one1 h rfl, [c1, c2, c3, c4, c5], [], rfl, rdcV hv, rfl⟩, rfl⟩
theorem width_Hs (a : Hs) : width a.d = 2 := rfl
theorem width_Mb (a : Mb) : width a.d = 6 := by simp [Mb.d, width, widths, width_V]
end
theorem zMb (W : World) (X : BSet) : RdF W X [.str ⟨#[]⟩, V.d V.zero] [.string ⟨#[]⟩, .int .u8 0, .int .i64 0, .string ⟨#[]⟩, .slice none 0 0, .slice none 0 0] := ⟨[_], _, rfl, ⟨rfl, by decide⟩, _, [], rfl, rdC_zV W X, rfl⟩
theorem zRc (W : World) (X : BSet) : RdF W X [.int .i64 0, hssD [], V.d V.zero] [.int .i64 0, .slice none 0 0, .int .u8 0, .int .i64 0, .string ⟨#[]⟩, .slice none 0 0, .slice none 0 0] := ⟨[_], _, rfl, rfl, [_], _, rfl, rdc_one1 (rd_nil _) rfl, _, [], rfl, rdC_zV W X, rfl⟩
section
variable {P : Program} {ops : Array Oper} {S : Nat → Prop} {w0 : World} {a0 : Act} {Γ : Ctx}
variable {d : Option Tmp} {ty : TypeId} {pos : String} {af : Array Edge} {gd : Option (Nat × Bool)}
theorem sp_indexL {α : Type} {x y : Operand} {T E : TypeId} {S' : BSet} {sz : Nat} {f : α → D} {xs : List α} {i : Nat} {j : Int} (hx : Has S w0 a0 Γ x (IsD S' (.lst sz (xs.map f)))) (hy : Has S w0 a0 Γ y (Is (.int .i64 j))) (hT : P.underlying T = some (.slice E)) (hz : szOf P E = some sz)
    (hj : j = i) (hi : i < xs.length) : Spec P ops S w0 a0 Γ ⟨d, .indexAddr T x y, ty, pos, af, gd⟩ (IsR S' (f xs[i])) := by
  subst hj
  have := sp_indexD (ty := ty) (pos := pos) (af := af) (gd := gd) (d := d) (ops := ops) hx hy hT hz (i := i) (by simpa using hi)
  simpa using this
theorem sp_lenL {α : Type} {x : Operand} {T E : TypeId} {S' : BSet} {sz : Nat} {f : α → D} {xs : List α} (hT : P.underlying T = some (.slice E)) (hx : Has S w0 a0 Γ x (IsD S' (.lst sz (xs.map f)))) :
    Spec P ops S w0 a0 Γ ⟨d, .call ⟨.builtin .len, #[x], #[T]⟩, ty, pos, af, gd⟩ (Is (.int .i64 xs.length)) := by
  have := sp_lenD (ops := ops) (d := d) (ty := ty) (pos := pos) (af := af) (gd := gd) hT hx
  simpa using this
end
end Go.Eng
