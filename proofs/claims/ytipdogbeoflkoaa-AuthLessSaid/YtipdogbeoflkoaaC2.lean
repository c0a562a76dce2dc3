import Derived.Test.YtipdogbeoflkoaaC1
namespace Go.Proofs.Ytipdogbeoflkoaa
open Go.Eng
set_option maxRecDepth 100000 in
theorem size_all : ∀ (n : Nat) (xs : List V), V.cnts xs < n → ∀ (deep : Nat), deep ≤ 201 → ∀ (w : World) (S : BSet) (v : Value), Rd w S (valsD xs) v → Calls Try.prog 47 #[v, .int .i64 deep] w (Ret w fun u _ => u = .int .i64 (szL xs deep 0)) := by
  intro n
  induction n with
  | zero => intro xs hx; omega
  | succ n ih =>
  intro xs hx deep hdeep w S v hv
  have hmx : xs.length ≤ maxLen := rd_len hv
  simp only [maxLen] at hmx
  obtain ⟨va, vc, ev, D_v⟩ := rdVs_out (rd_arg hv)
  subst ev
  refine enter Try.func47 rfl Try.ntmps47 (Nat.le_of_ble_eq_true rfl) fun a0 hsz0 hdf0 harg => ?_
  have e0 : sl a0 0 = (.slice va (xs.length) vc) := harg 0 (Nat.le_of_ble_eq_true rfl)
  have e1 : sl a0 1 = (.int .i64 ((deep : Nat))) := harg 1 (Nat.le_of_ble_eq_true rfl)
  have kw := Keeps.refl All w
  clear harg
  refine wp_seq_k fun K1 hK1 => ?_
  refine wp_reg All mixed hsz0 hdf0 st_tr trivial ?_
  refine Chain.op (φ := Is (.int .i64 (0))) (st_is _) (sp_assign Has.cst) ?_
  refine Chain.done ⟨by kernel_rfl, fun a2 g W2 hsz2 hdf2 hk hg henv hrest hpsi => ?_⟩
  obtain ⟨-, -⟩ := henv
  replace e0 := (hrest 0 rfl).trans e0
  replace e1 := (hrest 1 rfl).trans e1
  replace D_v := D_v.ext hk
  replace kw := kw.trans (.of_ext hk)
  clear hrest hk hg hpsi
  refine tail_nil (hK1 _ _ ?_)
  refine wp_seq_k fun K3 hK3 => ?_
  refine wp_reg All mixed hsz2 hdf2 st_tr trivial ?_
  refine Chain.op (φ := Is (.int .i64 (0))) (st_is _) (sp_assign Has.cst) ?_
  refine Chain.done ⟨by kernel_rfl, fun a4 g W4 hsz4 hdf4 hk hg henv hrest hpsi => ?_⟩
  obtain ⟨e5, -⟩ := henv
  replace e0 := (hrest 0 rfl).trans e0
  replace e1 := (hrest 1 rfl).trans e1
  replace D_v := D_v.ext hk
  have e5 : sl a4 5 = (.int .i64 (0)) := e5
  replace kw := kw.trans (.of_ext hk)
  clear hrest hk hg hpsi
  refine tail_nil (hK3 _ _ ?_)
  refine wp_seq_k fun K5 hK5 => ?_
  refine wp_seq_k fun K6 hK6 => ?_
  refine wp_reg All mixed hsz4 hdf4 st_tr trivial ?_
  refine Chain.op (φ := Is (.int .i64 (0))) (st_is _) (sp_assign Has.cst) ?_
  refine Chain.done ⟨by kernel_rfl, fun a7 g W7 hsz7 hdf7 hk hg henv hrest hpsi => ?_⟩
  obtain ⟨e6, -⟩ := henv
  replace e0 := (hrest 0 rfl).trans e0
  replace e1 := (hrest 1 rfl).trans e1
  replace e5 := (hrest 5 rfl).trans e5
  replace D_v := D_v.ext hk
  have e6 : sl a7 6 = (.int .i64 (0)) := e6
  replace kw := kw.trans (.of_ext hk)
  clear hrest hk hg hpsi
  refine tail_nil (hK6 _ _ ?_)
  refine wp_block ?_
  refine wp_for (xs.length) (fun k a W => ∃ (n2 : Nat), a.tmps.size = 68 ∧ a.defers = [] ∧ Keeps All w W ∧ sl a 0 = (.slice va (xs.length) vc) ∧ sl a 1 = (.int .i64 ((deep : Nat))) ∧ sl a 5 = (.int .i64 ((n2 : Nat))) ∧ sl a 6 = (.int .i64 ((k : Nat))) ∧ Rd W (SA w S []) (valsD (xs)) (.slice va (xs.length) vc) ∧ (szL xs deep 0 = szL (xs.drop k) deep n2)) ⟨0, hsz7, hdf7, kw, e0, e1, (e5.trans (congrArg (Value.int .i64) (rfl))), (e6.trans (congrArg (Value.int .i64) (rfl))), D_v, rfl⟩ ?_
  clear kw e0 e1 e5 e6 D_v
  rintro k a8 W8 hkk ⟨n2, hsz8, hdf8, kw, e0, e1, e5, e6, D_v, hin⟩
  refine wp_seq_k fun K9 hK9 => ?_
  refine wp_seq_k fun K10 hK10 => ?_
  refine wp_reg All mixed hsz8 hdf8 st_tr trivial ?_
  refine Chain.op (φ := Is (.int .i64 ((k : Nat)))) (st_is _) (sp_move (Has.base rfl e6)) ?_
  refine Chain.op (φ := Is (.slice va (xs.length) vc)) (st_is _) (sp_move (Has.base rfl e0)) ?_
  refine Chain.op (φ := Is (.int .i64 (xs.length))) (st_is _) (sp_lenVs Try.underlying31 ((Has.loc rfl).dat D_v sub_all)) ?_
  refine Chain.op (φ := Is (.bool (decide (((k : Nat) : Int) < (xs.length : Int))))) (st_is _) (sp_lss (Has.loc rfl) (Has.loc rfl)) ?_
  refine Chain.op (φ := Is (.bool (decide (((k : Nat) : Int) < (xs.length : Int))))) (st_is _) (sp_move (Has.loc rfl)) ?_
  refine Chain.opE (t := 12) (x := decide (((k : Nat) : Int) < (xs.length : Int))) (φ := Is (.int .i64 ((n2 : Nat)))) rfl (Has.loc rfl) (st_is _) (fun hg => sp_move (Has.base rfl e5)) ?_
  refine Chain.opE (t := 12) (x := decide (((k : Nat) : Int) < (xs.length : Int))) (φ := Is (.bool (decide (((n2 : Nat) : Int) < (20000 : Int))))) rfl (Has.loc rfl) (st_is _) (fun hg => sp_lss ((Has.loc rfl).undE hg) Has.cst) ?_
  refine Chain.op (φ := Is (.bool ((decide (((k : Nat) : Int) < (xs.length : Int))) && (decide (((n2 : Nat) : Int) < (20000 : Int)))))) (st_is _) (sp_and (Has.loc rfl) ((Has.loc rfl).weak fun hq => hq)) ?_
  refine Chain.done ⟨by kernel_rfl, fun a11 g W11 hsz11 hdf11 hk hg henv hrest hpsi => ?_⟩
  obtain ⟨e15, -, -, -, -, -, -, -, -⟩ := henv
  replace e0 := (hrest 0 rfl).trans e0
  replace e1 := (hrest 1 rfl).trans e1
  replace e5 := (hrest 5 rfl).trans e5
  replace e6 := (hrest 6 rfl).trans e6
  replace D_v := D_v.ext hk
  have e15 : sl a11 15 = (.bool ((decide (((k : Nat) : Int) < (xs.length : Int))) && (decide (((n2 : Nat) : Int) < (20000 : Int))))) := e15
  replace kw := kw.trans (.of_ext hk)
  clear hrest hk hg hpsi
  refine tail_nil (hK10 _ _ ?_)
  refine wp_cond_split e15 (fun hc => ?_) (fun hc => ?_)
  · -- T: (decide (((k : Nat) : Int) < (xs.length : Int))) && (decide (((n2 : Nat) : Int) 
    simp at hc
    obtain ⟨hlt, hn2i⟩ := hc
    have hn2 : n2 < 20000 := by omega
    have hdr := List.drop_eq_getElem_cons hlt
    have hce := cnt_elem hlt
    have hcq := cnt_eq xs[k]
    rw [hdr, szL, if_pos hn2] at hin
    have hmn : (xs[k]).ns.length ≤ maxLen := rd_ns hv hlt
    simp only [maxLen] at hmn
    refine wp_skip (hK9 _ _ ?_)
    refine wp_seq_k fun K12 hK12 => ?_
    refine wp_block ?_
    refine wp_seq_k fun K13 hK13 => ?_
    refine wp_reg All mixed hsz11 hdf11 st_tr trivial ?_
    refine Chain.op (φ := Is (.int .i64 ((n2 : Nat)))) (st_is _) (sp_move (Has.base rfl e5)) ?_
    refine Chain.op (φ := Is (.int .i64 (((n2 : Nat) : Int) + (4 : Int)))) (st_is _) (sp_add (Has.loc rfl) Has.cst (i64_in (by omega))) ?_
    refine Chain.op (φ := Is (.slice va (xs.length) vc)) (st_is _) (sp_move (Has.base rfl e0)) ?_
    refine Chain.op (φ := Is (.int .i64 ((k : Nat)))) (st_is _) (sp_move (Has.base rfl e6)) ?_
    refine Chain.op (φ := IsR (SA w S []) (V.d (xs[k]'hlt))) (st_r sub_all) (sp_indexV (i := k) ((Has.loc rfl).dat D_v sub_all) (Has.loc rfl) Try.underlying31 sz33 rfl hlt) ?_
    refine Chain.op (φ := IsR (SA w S []) (D.str ((xs[k]'hlt).t))) (st_r sub_all) (sp_fieldV (Has.loc rfl) Try.underlying33 rfl sz9 rfl rfl) ?_
    refine Chain.op (φ := Is (.string ((xs[k]'hlt).t))) (st_is _) (sp_loadStr (Has.loc rfl) agg9 sz9) ?_
    refine Chain.op (φ := Is (.int .i64 (((xs[k]'hlt).t).size))) (st_is _) (sp_lenS Try.underlying9 (Has.loc rfl)) ?_
    refine Chain.op (φ := Is (.int .i64 (min (20000 : Int) (((xs[k]'hlt).t).size : Int)))) (st_is _) (sp_min Has.cst (Has.loc rfl)) ?_
    refine Chain.op (φ := Is (.int .i64 ((((n2 : Nat) : Int) + (4 : Int) : Int) + (min (20000 : Int) (((xs[k]'hlt).t).size : Int) : Int)))) (st_is _) (sp_add (Has.loc rfl) (Has.loc rfl) (i64_in (by omega))) ?_
    refine Chain.op (φ := Is (.int .i64 ((((n2 : Nat) : Int) + (4 : Int) : Int) + (min (20000 : Int) (((xs[k]'hlt).t).size : Int) : Int)))) (st_is _) (sp_assign (Has.loc rfl)) ?_
    refine Chain.done ⟨by kernel_rfl, fun a14 g W14 hsz14 hdf14 hk hg henv hrest hpsi => ?_⟩
    obtain ⟨e5, -, -, -, -, -, -, -, -, -, -, -⟩ := henv
    replace e0 := (hrest 0 rfl).trans e0
    replace e1 := (hrest 1 rfl).trans e1
    replace e6 := (hrest 6 rfl).trans e6
    replace D_v := D_v.ext hk
    have e5 : sl a14 5 = (.int .i64 ((((n2 : Nat) : Int) + (4 : Int) : Int) + (min (20000 : Int) (((xs[k]'hlt).t).size : Int) : Int))) := e5
    replace kw := kw.trans (.of_ext hk)
    clear hrest hk hg hpsi
    refine tail_nil (hK13 _ _ ?_)
    refine wp_seq_k fun K15 hK15 => ?_
    refine wp_seq_k fun K16 hK16 => ?_
    refine wp_reg All mixed hsz14 hdf14 st_tr trivial ?_
    refine Chain.op (φ := Is (.int .i64 (0))) (st_is _) (sp_assign Has.cst) ?_
    refine Chain.done ⟨by kernel_rfl, fun a17 g W17 hsz17 hdf17 hk hg henv hrest hpsi => ?_⟩
    obtain ⟨e7, -⟩ := henv
    replace e0 := (hrest 0 rfl).trans e0
    replace e1 := (hrest 1 rfl).trans e1
    replace e5 := (hrest 5 rfl).trans e5
    replace e6 := (hrest 6 rfl).trans e6
    replace D_v := D_v.ext hk
    have e7 : sl a17 7 = (.int .i64 (0)) := e7
    replace kw := kw.trans (.of_ext hk)
    clear hrest hk hg hpsi
    refine tail_nil (hK16 _ _ ?_)
    refine wp_block ?_
    refine wp_for ((xs[k]'hlt).ns.length) (fun j a W => ∃ (n3 : Nat), a.tmps.size = 68 ∧ a.defers = [] ∧ Keeps All w W ∧ sl a 0 = (.slice va (xs.length) vc) ∧ sl a 1 = (.int .i64 ((deep : Nat))) ∧ sl a 5 = (.int .i64 ((n3 : Nat))) ∧ sl a 6 = (.int .i64 ((k : Nat))) ∧ sl a 7 = (.int .i64 ((j : Nat))) ∧ Rd W (SA w S []) (valsD (xs)) (.slice va (xs.length) vc) ∧ (szN (xs[k]'hlt).ns (n2 + 4 + min 20000 (xs[k]'hlt).t.size) = szN ((xs[k]'hlt).ns.drop j) n3)) ⟨(n2 + 4 + min 20000 (xs[k]'hlt).t.size), hsz17, hdf17, kw, e0, e1, (e5.trans (congrArg (Value.int .i64) (by push_cast; omega))), e6, (e7.trans (congrArg (Value.int .i64) (rfl))), D_v, rfl⟩ ?_
    clear kw e0 e1 e5 e6 e7 D_v
    rintro j a18 W18 hkj ⟨n3, hsz18, hdf18, kw, e0, e1, e5, e6, e7, D_v, hin2⟩
    refine wp_seq_k fun K19 hK19 => ?_
    refine wp_seq_k fun K20 hK20 => ?_
    refine wp_reg All mixed hsz18 hdf18 st_tr trivial ?_
    refine Chain.op (φ := Is (.int .i64 ((j : Nat)))) (st_is _) (sp_move (Has.base rfl e7)) ?_
    refine Chain.op (φ := Is (.slice va (xs.length) vc)) (st_is _) (sp_move (Has.base rfl e0)) ?_
    refine Chain.op (φ := Is (.int .i64 ((k : Nat)))) (st_is _) (sp_move (Has.base rfl e6)) ?_
    refine Chain.op (φ := IsR (SA w S []) (V.d (xs[k]'hlt))) (st_r sub_all) (sp_indexV (i := k) ((Has.loc rfl).dat D_v sub_all) (Has.loc rfl) Try.underlying31 sz33 rfl hlt) ?_
    refine Chain.op (φ := IsR (SA w S []) (strsD ((xs[k]'hlt).ns))) (st_r sub_all) (sp_fieldV (Has.loc rfl) Try.underlying33 rfl sz23 rfl rfl) ?_
    refine Chain.op (φ := IsD (SA w S []) (strsD ((xs[k]'hlt).ns))) (st_d sub_all) (sp_loadR (Has.loc rfl) agg23 sz23 rfl) ?_
    refine Chain.op (φ := Is (.int .i64 (((xs[k]'hlt).ns).length))) (st_is _) (sp_lenSs Try.underlying23 (Has.loc rfl)) ?_
    refine Chain.op (φ := Is (.bool (decide (((j : Nat) : Int) < (((xs[k]'hlt).ns).length : Int))))) (st_is _) (sp_lss (Has.loc rfl) (Has.loc rfl)) ?_
    refine Chain.op (φ := Is (.bool (decide (((j : Nat) : Int) < (((xs[k]'hlt).ns).length : Int))))) (st_is _) (sp_move (Has.loc rfl)) ?_
    refine Chain.opE (t := 36) (x := decide (((j : Nat) : Int) < (((xs[k]'hlt).ns).length : Int))) (φ := Is (.int .i64 ((n3 : Nat)))) rfl (Has.loc rfl) (st_is _) (fun hg => sp_move (Has.base rfl e5)) ?_
    refine Chain.opE (t := 36) (x := decide (((j : Nat) : Int) < (((xs[k]'hlt).ns).length : Int))) (φ := Is (.bool (decide (((n3 : Nat) : Int) < (20000 : Int))))) rfl (Has.loc rfl) (st_is _) (fun hg => sp_lss ((Has.loc rfl).undE hg) Has.cst) ?_
    refine Chain.op (φ := Is (.bool ((decide (((j : Nat) : Int) < (((xs[k]'hlt).ns).length : Int))) && (decide (((n3 : Nat) : Int) < (20000 : Int)))))) (st_is _) (sp_and (Has.loc rfl) ((Has.loc rfl).weak fun hq => hq)) ?_
    refine Chain.done ⟨by kernel_rfl, fun a21 g W21 hsz21 hdf21 hk hg henv hrest hpsi => ?_⟩
    obtain ⟨e39, -, -, -, -, -, -, -, -, -, -, -, -⟩ := henv
    replace e0 := (hrest 0 rfl).trans e0
    replace e1 := (hrest 1 rfl).trans e1
    replace e5 := (hrest 5 rfl).trans e5
    replace e6 := (hrest 6 rfl).trans e6
    replace e7 := (hrest 7 rfl).trans e7
    replace D_v := D_v.ext hk
    have e39 : sl a21 39 = (.bool ((decide (((j : Nat) : Int) < (((xs[k]'hlt).ns).length : Int))) && (decide (((n3 : Nat) : Int) < (20000 : Int))))) := e39
    replace kw := kw.trans (.of_ext hk)
    clear hrest hk hg hpsi
    refine tail_nil (hK20 _ _ ?_)
    refine wp_cond_split e39 (fun hc => ?_) (fun hc => ?_)
    · -- T: (decide (((j : Nat) : Int) < (((xs[k]'hlt).ns).length : Int))) && (decide (((n3 
      simp at hc
      obtain ⟨hltj, hn3i⟩ := hc
      have hn3 : n3 < 20000 := by omega
      have hdj := List.drop_eq_getElem_cons hltj
      rw [hdj, szN, if_pos hn3] at hin2
      refine wp_skip (hK19 _ _ ?_)
      refine wp_seq_k fun K22 hK22 => ?_
      refine wp_block ?_
      refine wp_reg All mixed hsz21 hdf21 st_tr trivial ?_
      refine Chain.op (φ := Is (.int .i64 ((n3 : Nat)))) (st_is _) (sp_move (Has.base rfl e5)) ?_
      refine Chain.op (φ := Is (.int .i64 (((n3 : Nat) : Int) + (2 : Int)))) (st_is _) (sp_add (Has.loc rfl) Has.cst (i64_in (by omega))) ?_
      refine Chain.op (φ := Is (.slice va (xs.length) vc)) (st_is _) (sp_move (Has.base rfl e0)) ?_
      refine Chain.op (φ := Is (.int .i64 ((k : Nat)))) (st_is _) (sp_move (Has.base rfl e6)) ?_
      refine Chain.op (φ := IsR (SA w S []) (V.d (xs[k]'hlt))) (st_r sub_all) (sp_indexV (i := k) ((Has.loc rfl).dat D_v sub_all) (Has.loc rfl) Try.underlying31 sz33 rfl hlt) ?_
      refine Chain.op (φ := IsR (SA w S []) (strsD ((xs[k]'hlt).ns))) (st_r sub_all) (sp_fieldV (Has.loc rfl) Try.underlying33 rfl sz23 rfl rfl) ?_
      refine Chain.op (φ := IsD (SA w S []) (strsD ((xs[k]'hlt).ns))) (st_d sub_all) (sp_loadR (Has.loc rfl) agg23 sz23 rfl) ?_
      refine Chain.op (φ := Is (.int .i64 ((j : Nat)))) (st_is _) (sp_move (Has.base rfl e7)) ?_
      refine Chain.op (φ := IsR (SA w S []) (D.str (((xs[k]'hlt).ns)[j]'hltj))) (st_r sub_all) (sp_indexS (i := j) (Has.loc rfl) (Has.loc rfl) Try.underlying23 sz9 rfl hltj) ?_
      refine Chain.op (φ := Is (.string (((xs[k]'hlt).ns)[j]'hltj))) (st_is _) (sp_loadStr (Has.loc rfl) agg9 sz9) ?_
      refine Chain.op (φ := Is (.int .i64 ((((xs[k]'hlt).ns)[j]'hltj).size))) (st_is _) (sp_lenS Try.underlying9 (Has.loc rfl)) ?_
      refine Chain.op (φ := Is (.int .i64 (min (20000 : Int) ((((xs[k]'hlt).ns)[j]'hltj).size : Int)))) (st_is _) (sp_min Has.cst (Has.loc rfl)) ?_
      refine Chain.op (φ := Is (.int .i64 ((((n3 : Nat) : Int) + (2 : Int) : Int) + (min (20000 : Int) ((((xs[k]'hlt).ns)[j]'hltj).size : Int) : Int)))) (st_is _) (sp_add (Has.loc rfl) (Has.loc rfl) (i64_in (by omega))) ?_
      refine Chain.op (φ := Is (.int .i64 ((((n3 : Nat) : Int) + (2 : Int) : Int) + (min (20000 : Int) ((((xs[k]'hlt).ns)[j]'hltj).size : Int) : Int)))) (st_is _) (sp_assign (Has.loc rfl)) ?_
      refine Chain.done ⟨by kernel_rfl, fun a23 g W23 hsz23 hdf23 hk hg henv hrest hpsi => ?_⟩
      obtain ⟨e5, -, -, -, -, -, -, -, -, -, -, -, -, -, -⟩ := henv
      replace e0 := (hrest 0 rfl).trans e0
      replace e1 := (hrest 1 rfl).trans e1
      replace e6 := (hrest 6 rfl).trans e6
      replace e7 := (hrest 7 rfl).trans e7
      replace D_v := D_v.ext hk
      have e5 : sl a23 5 = (.int .i64 ((((n3 : Nat) : Int) + (2 : Int) : Int) + (min (20000 : Int) ((((xs[k]'hlt).ns)[j]'hltj).size : Int) : Int))) := e5
      replace kw := kw.trans (.of_ext hk)
      clear hrest hk hg hpsi
      refine tail_nil (hK22 _ _ ?_)
      refine wp_reg All mixed hsz23 hdf23 st_tr trivial ?_
      refine Chain.op (φ := Is (.int .i64 ((j : Nat)))) (st_is _) (sp_move (Has.base rfl e7)) ?_
      refine Chain.op (φ := Is (.int .i64 (((j : Nat) : Int) + (1 : Int)))) (st_is _) (sp_add (Has.loc rfl) Has.cst (i64_in (by omega))) ?_
      refine Chain.op (φ := Is (.int .i64 (((j : Nat) : Int) + (1 : Int)))) (st_is _) (sp_assign (Has.loc rfl)) ?_
      refine Chain.done ⟨by kernel_rfl, fun a24 g W24 hsz24 hdf24 hk hg henv hrest hpsi => ?_⟩
      obtain ⟨e7, -, -, -⟩ := henv
      replace e0 := (hrest 0 rfl).trans e0
      replace e1 := (hrest 1 rfl).trans e1
      replace e5 := (hrest 5 rfl).trans e5
      replace e6 := (hrest 6 rfl).trans e6
      replace D_v := D_v.ext hk
      have e7 : sl a24 7 = (.int .i64 (((j : Nat) : Int) + (1 : Int))) := e7
      replace kw := kw.trans (.of_ext hk)
      clear hrest hk hg hpsi
      exact tail_nil ⟨hltj, (n3 + 2 + min 20000 ((xs[k]'hlt).ns[j]'hltj).size), hsz24, hdf24, kw, e0, e1, (e5.trans (congrArg (Value.int .i64) (by push_cast; omega))), e6, (e7.trans (congrArg (Value.int .i64) (by simp))), D_v, hin2⟩
    · -- E: (decide (((j : Nat) : Int) < (((xs[k]'hlt).ns).length : Int))) && (decide (((n3 
      have hfn : szN (xs[k]'hlt).ns (n2 + 4 + min 20000 (xs[k]'hlt).t.size) = n3 := by
        rw [hin2]; simp at hc
        by_cases hltj : j < (xs[k]'hlt).ns.length
        · exact szN_big _ (by have := hc hltj; omega)
        · rw [List.drop_eq_nil_of_le (by omega)]; rfl
      have hsv := szV_eq (xs[k]'hlt) deep n2
      rw [hfn] at hsv
      have hs1 := (szN_le (xs[k]'hlt).ns (n2 + 4 + min 20000 (xs[k]'hlt).t.size)).2
      rw [hfn] at hs1
      have hs2 := szL_top (xs[k]'hlt).xs (deep + 1) 0
      refine wp_exit (hK15 _ _ ?_)
      refine wp_seq_k fun K25 hK25 => ?_
      refine wp_seq_k fun K26 hK26 => ?_
      refine wp_reg All mixed hsz21 hdf21 st_tr trivial ?_
      refine Chain.op (φ := Is (.int .i64 ((deep : Nat)))) (st_is _) (sp_move (Has.base rfl e1)) ?_
      refine Chain.op (φ := Is (.bool (decide ((200 : Int) < ((deep : Nat) : Int))))) (st_is _) (sp_gtr (Has.loc rfl) Has.cst) ?_
      refine Chain.done ⟨by kernel_rfl, fun a27 g W27 hsz27 hdf27 hk hg henv hrest hpsi => ?_⟩
      obtain ⟨e56, -, -⟩ := henv
      replace e0 := (hrest 0 rfl).trans e0
      replace e1 := (hrest 1 rfl).trans e1
      replace e5 := (hrest 5 rfl).trans e5
      replace e6 := (hrest 6 rfl).trans e6
      replace D_v := D_v.ext hk
      have e56 : sl a27 56 = (.bool (decide ((200 : Int) < ((deep : Nat) : Int)))) := e56
      replace kw := kw.trans (.of_ext hk)
      clear hrest hk hg hpsi
      refine tail_nil (hK26 _ _ ?_)
      refine wp_cond_split e56 (fun hc => ?_) (fun hc => ?_)
      · -- T: decide ((200 : Int) < ((deep : Nat) : Int))
        have hdd : 200 < deep := by have := of_decide_eq_true hc; omega
        rw [if_pos hdd] at hin
        refine wp_seq_k fun K28 hK28 => ?_
        refine wp_reg All mixed hsz27 hdf27 st_tr trivial ?_
        refine Chain.op (φ := Is (.int .i64 (20000))) (st_is _) (sp_assign Has.cst) ?_
        refine Chain.done ⟨by kernel_rfl, fun a29 g W29 hsz29 hdf29 hk hg henv hrest hpsi => ?_⟩
        obtain ⟨e4, -⟩ := henv
        replace D_v := D_v.ext hk
        have e4 : sl a29 4 = (.int .i64 (20000)) := e4
        replace kw := kw.trans (.of_ext hk)
        clear hrest hk hg hpsi
        refine tail_nil (hK28 _ _ ?_)
        refine wp_ret ?_
        refine (show bodyPost Try.prog Try.f47 _ .ret _ _ from ret1 rfl hdf29 e4 ⟨_, rfl, kw, ?_⟩)
        first | rw [hfin] | (rw [hin]; rfl)
      · -- E: decide ((200 : Int) < ((deep : Nat) : Int))
        have hdd : ¬ 200 < deep := by have := of_decide_eq_false hc; omega
        rw [if_neg hdd, hsv] at hin
        have hs3 := hs2 (by omega)
        refine wp_skip (hK25 _ _ ?_)
        refine wp_reg All mixed hsz27 hdf27 st_tr trivial ?_
        refine Chain.op (φ := Is (.int .i64 ((n3 : Nat)))) (st_is _) (sp_move (Has.base rfl e5)) ?_
        refine Chain.op (φ := Is (.slice va (xs.length) vc)) (st_is _) (sp_move (Has.base rfl e0)) ?_
        refine Chain.op (φ := Is (.int .i64 ((k : Nat)))) (st_is _) (sp_move (Has.base rfl e6)) ?_
        refine Chain.op (φ := IsR (SA w S []) (V.d (xs[k]'hlt))) (st_r sub_all) (sp_indexV (i := k) ((Has.loc rfl).dat D_v sub_all) (Has.loc rfl) Try.underlying31 sz33 rfl hlt) ?_
        refine Chain.op (φ := IsR (SA w S []) (valsD ((xs[k]'hlt).xs))) (st_r sub_all) (sp_fieldV (Has.loc rfl) Try.underlying33 rfl sz31 rfl rfl) ?_
        refine Chain.op (φ := IsD (SA w S []) (valsD ((xs[k]'hlt).xs))) (st_d sub_all) (sp_loadR (Has.loc rfl) agg31 sz31 rfl) ?_
        refine Chain.op (φ := Is (.int .i64 ((deep : Nat)))) (st_is _) (sp_move (Has.base rfl e1)) ?_
        refine Chain.op (φ := Is (.int .i64 (((deep : Nat) : Int) + (1 : Int)))) (st_is _) (sp_add (Has.loc rfl) Has.cst (i64_in (by omega))) ?_
        refine Chain.op (φ := Is (.int .i64 (szL ((xs[k]'hlt).xs) (deep + 1) 0))) (st_is _) (sp_call2 (φ1 := IsD (SA w S []) (valsD ((xs[k]'hlt).xs))) (φ2 := Is (.int .i64 (((deep : Nat) : Int) + (1 : Int)))) ent47 (Has.loc rfl) (Has.loc rfl) (fun g u1 u2 W hk hgk h1 h2 => by have h2 : u2 = _ := h2; subst u2; exact ih ((xs[k]'hlt).xs) (by omega) (deep + 1) (by omega) W _ _ h1)) ?_
        refine Chain.op (φ := Is (.int .i64 (((n3 : Nat) : Int) + (szL ((xs[k]'hlt).xs) (deep + 1) 0 : Int)))) (st_is _) (sp_add (Has.loc rfl) (Has.loc rfl) (i64_in (by omega))) ?_
        refine Chain.op (φ := Is (.int .i64 (((n3 : Nat) : Int) + (szL ((xs[k]'hlt).xs) (deep + 1) 0 : Int)))) (st_is _) (sp_assign (Has.loc rfl)) ?_
        refine Chain.done ⟨by kernel_rfl, fun a30 g W30 hsz30 hdf30 hk hg henv hrest hpsi => ?_⟩
        obtain ⟨e5, -, -, -, -, -, -, -, -, -, -, -⟩ := henv
        replace e0 := (hrest 0 rfl).trans e0
        replace e1 := (hrest 1 rfl).trans e1
        replace e6 := (hrest 6 rfl).trans e6
        replace D_v := D_v.ext hk
        have e5 : sl a30 5 = (.int .i64 (((n3 : Nat) : Int) + (szL ((xs[k]'hlt).xs) (deep + 1) 0 : Int))) := e5
        replace kw := kw.trans (.of_ext hk)
        clear hrest hk hg hpsi
        refine tail_nil (hK12 _ _ ?_)
        refine wp_reg All mixed hsz30 hdf30 st_tr trivial ?_
        refine Chain.op (φ := Is (.int .i64 ((k : Nat)))) (st_is _) (sp_move (Has.base rfl e6)) ?_
        refine Chain.op (φ := Is (.int .i64 (((k : Nat) : Int) + (1 : Int)))) (st_is _) (sp_add (Has.loc rfl) Has.cst (i64_in (by omega))) ?_
        refine Chain.op (φ := Is (.int .i64 (((k : Nat) : Int) + (1 : Int)))) (st_is _) (sp_assign (Has.loc rfl)) ?_
        refine Chain.done ⟨by kernel_rfl, fun a31 g W31 hsz31 hdf31 hk hg henv hrest hpsi => ?_⟩
        obtain ⟨e6, -, -, -⟩ := henv
        replace e0 := (hrest 0 rfl).trans e0
        replace e1 := (hrest 1 rfl).trans e1
        replace e5 := (hrest 5 rfl).trans e5
        replace D_v := D_v.ext hk
        have e6 : sl a31 6 = (.int .i64 (((k : Nat) : Int) + (1 : Int))) := e6
        replace kw := kw.trans (.of_ext hk)
        clear hrest hk hg hpsi
        exact tail_nil ⟨hlt, (n3 + szL (xs[k]'hlt).xs (deep + 1) 0), hsz31, hdf31, kw, e0, e1, (e5.trans (congrArg (Value.int .i64) (by push_cast; omega))), (e6.trans (congrArg (Value.int .i64) (by simp))), D_v, hin⟩
  · -- E: (decide (((k : Nat) : Int) < (xs.length : Int))) && (decide (((n2 : Nat) : Int) 
    have hfin : szL xs deep 0 = n2 := by
      rw [hin]; simp at hc
      by_cases hlt : k < xs.length
      · exact szL_big _ _ (by have := hc hlt; omega)
      · rw [List.drop_eq_nil_of_le (by omega)]; rfl
    refine wp_exit (hK5 _ _ ?_)
    refine wp_seq_k fun K32 hK32 => ?_
    refine wp_reg All mixed hsz11 hdf11 st_tr trivial ?_
    refine Chain.op (φ := Is (.int .i64 ((n2 : Nat)))) (st_is _) (sp_move (Has.base rfl e5)) ?_
    refine Chain.op (φ := Is (.int .i64 ((n2 : Nat)))) (st_is _) (sp_assign (Has.loc rfl)) ?_
    refine Chain.done ⟨by kernel_rfl, fun a33 g W33 hsz33 hdf33 hk hg henv hrest hpsi => ?_⟩
    obtain ⟨e4, -, -⟩ := henv
    replace D_v := D_v.ext hk
    have e4 : sl a33 4 = (.int .i64 ((n2 : Nat))) := e4
    replace kw := kw.trans (.of_ext hk)
    clear hrest hk hg hpsi
    refine tail_nil (hK32 _ _ ?_)
    refine wp_ret ?_
    refine (show bodyPost Try.prog Try.f47 _ .ret _ _ from ret1 rfl hdf33 e4 ⟨_, rfl, kw, ?_⟩)
    first | rw [hfin] | (rw [hin]; rfl)

set_option maxRecDepth 100000 in
theorem Long_ok (xs : List V) (w : World) (S : BSet) (v : Value) (hv : Rd w S (valsD xs) v) : Calls Try.prog 31 #[v] w (Ret w fun u _ => u = .bool (decide (20000 ≤ szL xs 0 0))) := by
  obtain ⟨va, vc, ev, D_v⟩ := rdVs_out (rd_arg hv)
  subst ev
  refine enter Try.func31 rfl Try.ntmps31 (Nat.le_of_ble_eq_true rfl) fun a0 hsz0 hdf0 harg => ?_
  have e0 : sl a0 0 = (.slice va (xs.length) vc) := harg 0 (Nat.le_of_ble_eq_true rfl)
  have kw := Keeps.refl All w
  clear harg
  refine wp_seq_k fun K1 hK1 => ?_
  refine wp_reg All mixed hsz0 hdf0 st_tr trivial ?_
  refine Chain.op (φ := Is (.bool (false))) (st_is _) (sp_assign Has.cst) ?_
  refine Chain.done ⟨by kernel_rfl, fun a2 g W2 hsz2 hdf2 hk hg henv hrest hpsi => ?_⟩
  obtain ⟨-, -⟩ := henv
  replace e0 := (hrest 0 rfl).trans e0
  replace D_v := D_v.ext hk
  replace kw := kw.trans (.of_ext hk)
  clear hrest hk hg hpsi
  refine tail_nil (hK1 _ _ ?_)
  refine wp_seq_k fun K3 hK3 => ?_
  refine wp_reg All mixed hsz2 hdf2 st_tr trivial ?_
  refine Chain.op (φ := Is (.slice va (xs.length) vc)) (st_is _) (sp_move (Has.base rfl e0)) ?_
  refine Chain.op (φ := Is (.int .i64 (szL (xs) 0 0))) (st_is _) (sp_call2 (φ1 := IsD (SA w S []) (valsD (xs))) (φ2 := Is (.int .i64 (0))) ent47 ((Has.loc rfl).dat D_v sub_all) Has.cst (fun g u1 u2 W hk hgk h1 h2 => by have h2 : u2 = _ := h2; subst u2; exact size_all _ (xs) (Nat.lt_succ_self _) 0 (by omega) W _ _ h1)) ?_
  refine Chain.op (φ := Is (.bool (decide ((20000 : Int) ≤ (szL (xs) 0 0 : Int))))) (st_is _) (sp_geq (Has.loc rfl) Has.cst) ?_
  refine Chain.op (φ := Is (.bool (decide ((20000 : Int) ≤ (szL (xs) 0 0 : Int))))) (st_is _) (sp_assign (Has.loc rfl)) ?_
  refine Chain.done ⟨by kernel_rfl, fun a4 g W4 hsz4 hdf4 hk hg henv hrest hpsi => ?_⟩
  obtain ⟨e2, -, -, -, -⟩ := henv
  replace D_v := D_v.ext hk
  have e2 : sl a4 2 = (.bool (decide ((20000 : Int) ≤ (szL (xs) 0 0 : Int)))) := e2
  replace kw := kw.trans (.of_ext hk)
  clear hrest hk hg hpsi
  refine tail_nil (hK3 _ _ ?_)
  refine wp_ret ?_
  refine (show bodyPost Try.prog Try.f31 _ .ret _ _ from ret1 rfl hdf4 e2 ⟨_, rfl, kw, ?_⟩)
  congr 1; exact decide_eq_decide.2 (by omega)

set_option maxRecDepth 100000 in
theorem equal_ok (ns ms : List ByteArray) (w : World) (S : BSet) (v u : Value) (hv : Rd w S (strsD ns) v) (hu : Rd w S (strsD ms) u) : Calls Try.prog 46 #[v, u] w (Ret w fun u _ => u = .bool (decide (ns = ms))) := by
  have hl1 := rd_lenS hv
  have hl2 := rd_lenS hu
  simp only [maxLen] at hl1 hl2
  obtain ⟨va, vc, ev, D_v⟩ := rdS_out (rd_arg hv)
  subst ev
  obtain ⟨ua, uc, ev, D_u⟩ := rdS_out (rd_arg hu)
  subst ev
  refine enter Try.func46 rfl Try.ntmps46 (Nat.le_of_ble_eq_true rfl) fun a0 hsz0 hdf0 harg => ?_
  have e0 : sl a0 0 = (.slice va (ns.length) vc) := harg 0 (Nat.le_of_ble_eq_true rfl)
  have e1 : sl a0 1 = (.slice ua (ms.length) uc) := harg 1 (Nat.le_of_ble_eq_true rfl)
  have kw := Keeps.refl All w
  clear harg
  refine wp_seq_k fun K1 hK1 => ?_
  refine wp_reg All mixed hsz0 hdf0 st_tr trivial ?_
  refine Chain.op (φ := Is (.bool (false))) (st_is _) (sp_assign Has.cst) ?_
  refine Chain.done ⟨by kernel_rfl, fun a2 g W2 hsz2 hdf2 hk hg henv hrest hpsi => ?_⟩
  obtain ⟨-, -⟩ := henv
  replace e0 := (hrest 0 rfl).trans e0
  replace e1 := (hrest 1 rfl).trans e1
  replace D_v := D_v.ext hk
  replace D_u := D_u.ext hk
  replace kw := kw.trans (.of_ext hk)
  clear hrest hk hg hpsi
  refine tail_nil (hK1 _ _ ?_)
  refine wp_seq_k fun K3 hK3 => ?_
  refine wp_seq_k fun K4 hK4 => ?_
  refine wp_reg All mixed hsz2 hdf2 st_tr trivial ?_
  refine Chain.op (φ := Is (.slice va (ns.length) vc)) (st_is _) (sp_move (Has.base rfl e0)) ?_
  refine Chain.op (φ := Is (.int .i64 (ns.length))) (st_is _) (sp_lenSs Try.underlying23 ((Has.loc rfl).dat D_v sub_all)) ?_
  refine Chain.op (φ := Is (.slice ua (ms.length) uc)) (st_is _) (sp_move (Has.base rfl e1)) ?_
  refine Chain.op (φ := Is (.int .i64 (ms.length))) (st_is _) (sp_lenSs Try.underlying23 ((Has.loc rfl).dat D_u sub_all)) ?_
  refine Chain.op (φ := Is (.bool ((ns.length : Int) != (ms.length : Int)))) (st_is _) (sp_neq (Has.loc rfl) (Has.loc rfl)) ?_
  refine Chain.done ⟨by kernel_rfl, fun a5 g W5 hsz5 hdf5 hk hg henv hrest hpsi => ?_⟩
  obtain ⟨e10, -, -, -, -, -⟩ := henv
  replace e0 := (hrest 0 rfl).trans e0
  replace e1 := (hrest 1 rfl).trans e1
  replace D_v := D_v.ext hk
  replace D_u := D_u.ext hk
  have e10 : sl a5 10 = (.bool ((ns.length : Int) != (ms.length : Int))) := e10
  replace kw := kw.trans (.of_ext hk)
  clear hrest hk hg hpsi
  refine tail_nil (hK4 _ _ ?_)
  refine wp_cond_split e10 (fun hc => ?_) (fun hc => ?_)
  · -- T: (ns.length : Int) != (ms.length : Int)
    have hfin : decide (ns = ms) = false := decide_eq_false fun h => by subst h; simp at hc
    refine wp_seq_k fun K6 hK6 => ?_
    refine wp_reg All mixed hsz5 hdf5 st_tr trivial ?_
    refine Chain.op (φ := Is (.bool (false))) (st_is _) (sp_assign Has.cst) ?_
    refine Chain.done ⟨by kernel_rfl, fun a7 g W7 hsz7 hdf7 hk hg henv hrest hpsi => ?_⟩
    obtain ⟨e4, -⟩ := henv
    replace D_v := D_v.ext hk
    replace D_u := D_u.ext hk
    have e4 : sl a7 4 = (.bool (false)) := e4
    replace kw := kw.trans (.of_ext hk)
    clear hrest hk hg hpsi
    refine tail_nil (hK6 _ _ ?_)
    refine wp_ret ?_
    refine (show bodyPost Try.prog Try.f46 _ .ret _ _ from ret1 rfl hdf7 e4 ⟨_, rfl, kw, ?_⟩)
    rw [hfin]
  · -- E: (ns.length : Int) != (ms.length : Int)
    have hll : ns.length = ms.length := by simp at hc; omega
    refine wp_skip (hK3 _ _ ?_)
    refine wp_seq_k fun K8 hK8 => ?_
    refine wp_seq_k fun K9 hK9 => ?_
    refine wp_reg All mixed hsz5 hdf5 st_tr trivial ?_
    refine Chain.op (φ := Is (.slice va (ns.length) vc)) (st_is _) (sp_move (Has.base rfl e0)) ?_
    refine Chain.op (φ := Is (.int .i64 (ns.length))) (st_is _) (sp_lenSs Try.underlying23 ((Has.loc rfl).dat D_v sub_all)) ?_
    refine Chain.op (φ := Is (.int .i64 (0))) (st_is _) (sp_move Has.cst) ?_
    refine Chain.done ⟨by kernel_rfl, fun a10 g W10 hsz10 hdf10 hk hg henv hrest hpsi => ?_⟩
    obtain ⟨e13, e12, -, -⟩ := henv
    replace e0 := (hrest 0 rfl).trans e0
    replace e1 := (hrest 1 rfl).trans e1
    replace D_v := D_v.ext hk
    replace D_u := D_u.ext hk
    have e12 : sl a10 12 = (.int .i64 (ns.length)) := e12
    have e13 : sl a10 13 = (.int .i64 (0)) := e13
    replace kw := kw.trans (.of_ext hk)
    clear hrest hk hg hpsi
    refine tail_nil (hK9 _ _ ?_)
    refine wp_block ?_
    refine wp_for (ns.length) (fun k a W => a.tmps.size = 26 ∧ a.defers = [] ∧ Keeps All w W ∧ sl a 0 = (.slice va (ns.length) vc) ∧ sl a 1 = (.slice ua (ms.length) uc) ∧ sl a 12 = (.int .i64 (ns.length)) ∧ sl a 13 = (.int .i64 ((k : Nat))) ∧ Rd W (SA w S []) (strsD (ns)) (.slice va (ns.length) vc) ∧ Rd W (SA w S []) (strsD (ms)) (.slice ua (ms.length) uc) ∧ (∀ i (h1 : i < ns.length) (h2 : i < ms.length), i < k → ns[i] = ms[i])) ⟨hsz10, hdf10, kw, e0, e1, e12, (e13.trans (congrArg (Value.int .i64) (rfl))), D_v, D_u, fun i h1 h2 hi => absurd hi (by omega)⟩ ?_
    clear kw e0 e1 e12 e13 D_v D_u
    rintro k a11 W11 hkk ⟨hsz11, hdf11, kw, e0, e1, e12, e13, D_v, D_u, hinv⟩
    refine wp_seq_k fun K12 hK12 => ?_
    refine wp_reg All mixed hsz11 hdf11 st_tr trivial ?_
    refine Chain.op (φ := Is (.bool (decide (((k : Nat) : Int) < (ns.length : Int))))) (st_is _) (sp_lss (Has.base rfl e13) (Has.base rfl e12)) ?_
    refine Chain.done ⟨by kernel_rfl, fun a13 g W13 hsz13 hdf13 hk hg henv hrest hpsi => ?_⟩
    obtain ⟨e14, -⟩ := henv
    replace e0 := (hrest 0 rfl).trans e0
    replace e1 := (hrest 1 rfl).trans e1
    replace e12 := (hrest 12 rfl).trans e12
    replace e13 := (hrest 13 rfl).trans e13
    replace D_v := D_v.ext hk
    replace D_u := D_u.ext hk
    have e14 : sl a13 14 = (.bool (decide (((k : Nat) : Int) < (ns.length : Int)))) := e14
    replace kw := kw.trans (.of_ext hk)
    clear hrest hk hg hpsi
    refine tail_nil (hK12 _ _ ?_)
    refine wp_seq_k fun K14 hK14 => ?_
    refine wp_cond_split e14 (fun hc => ?_) (fun hc => ?_)
    · -- T: decide (((k : Nat) : Int) < (ns.length : Int))
      have hlt : k < ns.length := by simpa using hc
      refine wp_skip (hK14 _ _ ?_)
      refine wp_seq_k fun K15 hK15 => ?_
      refine wp_block ?_
      refine wp_seq_k fun K16 hK16 => ?_
      refine wp_reg All mixed hsz13 hdf13 st_tr trivial ?_
      refine Chain.op (φ := Is (.int .i64 ((k : Nat)))) (st_is _) (sp_move (Has.base rfl e13)) ?_
      refine Chain.op (φ := Is (.int .i64 ((k : Nat)))) (st_is _) (sp_assign (Has.loc rfl)) ?_
      refine Chain.done ⟨by kernel_rfl, fun a17 g W17 hsz17 hdf17 hk hg henv hrest hpsi => ?_⟩
      obtain ⟨e5, -, -⟩ := henv
      replace e0 := (hrest 0 rfl).trans e0
      replace e1 := (hrest 1 rfl).trans e1
      replace e12 := (hrest 12 rfl).trans e12
      replace e13 := (hrest 13 rfl).trans e13
      replace D_v := D_v.ext hk
      replace D_u := D_u.ext hk
      have e5 : sl a17 5 = (.int .i64 ((k : Nat))) := e5
      replace kw := kw.trans (.of_ext hk)
      clear hrest hk hg hpsi
      refine tail_nil (hK16 _ _ ?_)
      refine wp_seq_k fun K18 hK18 => ?_
      refine wp_reg All mixed hsz17 hdf17 st_tr trivial ?_
      refine Chain.op (φ := Is (.slice va (ns.length) vc)) (st_is _) (sp_move (Has.base rfl e0)) ?_
      refine Chain.op (φ := Is (.int .i64 ((k : Nat)))) (st_is _) (sp_move (Has.base rfl e5)) ?_
      refine Chain.op (φ := IsR (SA w S []) (D.str (ns[k]'hlt))) (st_r sub_all) (sp_indexS (i := k) ((Has.loc rfl).dat D_v sub_all) (Has.loc rfl) Try.underlying23 sz9 rfl hlt) ?_
      refine Chain.op (φ := Is (.string (ns[k]'hlt))) (st_is _) (sp_loadStr (Has.loc rfl) agg9 sz9) ?_
      refine Chain.op (φ := Is (.slice ua (ms.length) uc)) (st_is _) (sp_move (Has.base rfl e1)) ?_
      refine Chain.op (φ := Is (.int .i64 ((k : Nat)))) (st_is _) (sp_move (Has.base rfl e5)) ?_
      refine Chain.op (φ := IsR (SA w S []) (D.str (ms[k]'(by omega)))) (st_r sub_all) (sp_indexS (i := k) ((Has.loc rfl).dat D_u sub_all) (Has.loc rfl) Try.underlying23 sz9 rfl (by omega)) ?_
      refine Chain.op (φ := Is (.string (ms[k]'(by omega)))) (st_is _) (sp_loadStr (Has.loc rfl) agg9 sz9) ?_
      refine Chain.op (φ := Is (.bool (!decide ((ns[k]'hlt) = (ms[k]'(by omega)))))) (st_is _) (sp_sNeq (Has.loc rfl) (Has.loc rfl)) ?_
      refine Chain.done ⟨by kernel_rfl, fun a19 g W19 hsz19 hdf19 hk hg henv hrest hpsi => ?_⟩
      obtain ⟨e24, -, -, -, -, -, -, -, -, -⟩ := henv
      replace e0 := (hrest 0 rfl).trans e0
      replace e1 := (hrest 1 rfl).trans e1
      replace e12 := (hrest 12 rfl).trans e12
      replace e13 := (hrest 13 rfl).trans e13
      replace D_v := D_v.ext hk
      replace D_u := D_u.ext hk
      have e24 : sl a19 24 = (.bool (!decide ((ns[k]'hlt) = (ms[k]'(by omega))))) := e24
      replace kw := kw.trans (.of_ext hk)
      clear hrest hk hg hpsi
      refine tail_nil (hK18 _ _ ?_)
      refine wp_cond_split e24 (fun hc => ?_) (fun hc => ?_)
      · -- T: !decide ((ns[k]'hlt) = (ms[k]'(by omega)))
        have hfin : decide (ns = ms) = false := decide_eq_false fun h => by subst h; simp at hc
        refine wp_seq_k fun K20 hK20 => ?_
        refine wp_reg All mixed hsz19 hdf19 st_tr trivial ?_
        refine Chain.op (φ := Is (.bool (false))) (st_is _) (sp_assign Has.cst) ?_
        refine Chain.done ⟨by kernel_rfl, fun a21 g W21 hsz21 hdf21 hk hg henv hrest hpsi => ?_⟩
        obtain ⟨e4, -⟩ := henv
        replace D_v := D_v.ext hk
        replace D_u := D_u.ext hk
        have e4 : sl a21 4 = (.bool (false)) := e4
        replace kw := kw.trans (.of_ext hk)
        clear hrest hk hg hpsi
        refine tail_nil (hK20 _ _ ?_)
        refine wp_ret ?_
        refine (show bodyPost Try.prog Try.f46 _ .ret _ _ from ret1 rfl hdf21 e4 ⟨_, rfl, kw, ?_⟩)
        rw [hfin]
      · -- E: !decide ((ns[k]'hlt) = (ms[k]'(by omega)))
        have hk1 : ns[k] = ms[k] := by simpa using hc
        refine wp_skip (hK15 _ _ ?_)
        refine wp_reg All mixed hsz19 hdf19 st_tr trivial ?_
        refine Chain.op (φ := Is (.int .i64 (((k : Nat) : Int) + (1 : Int)))) (st_is _) (sp_add (Has.base rfl e13) Has.cst (i64_in (by omega))) ?_
        refine Chain.op (φ := Is (.int .i64 (((k : Nat) : Int) + (1 : Int)))) (st_is _) (sp_move (Has.loc rfl)) ?_
        refine Chain.done ⟨by kernel_rfl, fun a22 g W22 hsz22 hdf22 hk hg henv hrest hpsi => ?_⟩
        obtain ⟨e13, -, -⟩ := henv
        replace e0 := (hrest 0 rfl).trans e0
        replace e1 := (hrest 1 rfl).trans e1
        replace e12 := (hrest 12 rfl).trans e12
        replace D_v := D_v.ext hk
        replace D_u := D_u.ext hk
        have e13 : sl a22 13 = (.int .i64 (((k : Nat) : Int) + (1 : Int))) := e13
        replace kw := kw.trans (.of_ext hk)
        clear hrest hk hg hpsi
        exact tail_nil ⟨hlt, hsz22, hdf22, kw, e0, e1, e12, (e13.trans (congrArg (Value.int .i64) (by simp))), D_v, D_u, fun i h1 h2 hi => by rcases Nat.lt_succ_iff_lt_or_eq.1 hi with h | h; exact hinv i h1 h2 h; subst h; exact hk1⟩
    · -- E: decide (((k : Nat) : Int) < (ns.length : Int))
      have hge0 : ¬ k < ns.length := by simpa using hc
      have hge : k = ns.length := by omega
      have hfin : decide (ns = ms) = true := decide_eq_true (List.ext_getElem hll fun i h1 h2 => hinv i h1 h2 (by omega))
      refine wp_exit (hK8 _ _ ?_)
      refine wp_seq_k fun K23 hK23 => ?_
      refine wp_reg All mixed hsz13 hdf13 st_tr trivial ?_
      refine Chain.op (φ := Is (.bool (true))) (st_is _) (sp_assign Has.cst) ?_
      refine Chain.done ⟨by kernel_rfl, fun a24 g W24 hsz24 hdf24 hk hg henv hrest hpsi => ?_⟩
      obtain ⟨e4, -⟩ := henv
      replace D_v := D_v.ext hk
      replace D_u := D_u.ext hk
      have e4 : sl a24 4 = (.bool (true)) := e4
      replace kw := kw.trans (.of_ext hk)
      clear hrest hk hg hpsi
      refine tail_nil (hK23 _ _ ?_)
      refine wp_ret ?_
      refine (show bodyPost Try.prog Try.f46 _ .ret _ _ from ret1 rfl hdf24 e4 ⟨_, rfl, kw, ?_⟩)
      rw [hfin]

set_option maxRecDepth 100000 in
theorem endless_all : ∀ (n : Nat) (xs : List V), V.cnts xs < n → ∀ (level : Int), 0 ≤ level → level + n ≤ 4294967296 → ∀ (nested : Bool) (p : Value) (w : World) (S : BSet) (v : Value), (∀ b o, S b o → Cln o) → Rd w S (valsD xs) v → Above w S xs p →
    Calls Try.prog 51 #[v, .int .i64 level, p, .bool nested] w (Ret w fun u _ => u = .bool false) := by
  intro n
  induction n with
  | zero => intro xs hx; omega
  | succ n ih =>
  intro xs hx level hl0 hl nested p w S v hS hv hab
  have hmx : xs.length ≤ maxLen := rd_len hv
  simp only [maxLen] at hmx
  rcases hab with rfl | ⟨y, hy, hcy⟩
  · skip
    obtain ⟨va, vc, ev, D_v⟩ := rdVs_out (rd_arg hv)
    subst ev
    refine enter Try.func51 rfl Try.ntmps51 (Nat.le_of_ble_eq_true rfl) fun a0 hsz0 hdf0 harg => ?_
    have e0 : sl a0 0 = (.slice va (xs.length) vc) := harg 0 (Nat.le_of_ble_eq_true rfl)
    have e1 : sl a0 1 = (.int .i64 (level)) := harg 1 (Nat.le_of_ble_eq_true rfl)
    have e2 : sl a0 2 = (.pointer none) := harg 2 (Nat.le_of_ble_eq_true rfl)
    have e3 : sl a0 3 = (.bool (nested)) := harg 3 (Nat.le_of_ble_eq_true rfl)
    have kw := Keeps.refl All w
    clear harg
    refine wp_seq_k fun K1 hK1 => ?_
    refine wp_reg All mixed hsz0 hdf0 st_tr trivial ?_
    refine Chain.op (φ := Is (.bool (false))) (st_is _) (sp_assign Has.cst) ?_
    refine Chain.done ⟨by kernel_rfl, fun a2 g W2 hsz2 hdf2 hk hg henv hrest hpsi => ?_⟩
    obtain ⟨-, -⟩ := henv
    replace e0 := (hrest 0 rfl).trans e0
    replace e1 := (hrest 1 rfl).trans e1
    replace e2 := (hrest 2 rfl).trans e2
    replace e3 := (hrest 3 rfl).trans e3
    replace D_v := D_v.ext hk
    replace kw := kw.trans (.of_ext hk)
    clear hrest hk hg hpsi
    refine tail_nil (hK1 _ _ ?_)
    refine wp_seq_k fun K3 hK3 => ?_
    refine wp_seq_k fun K4 hK4 => ?_
    refine wp_reg All mixed hsz2 hdf2 st_tr trivial ?_
    refine Chain.op (φ := Is (.slice va (xs.length) vc)) (st_is _) (sp_move (Has.base rfl e0)) ?_
    refine Chain.op (φ := Is (.int .i64 (xs.length))) (st_is _) (sp_lenVs Try.underlying31 ((Has.loc rfl).dat D_v sub_all)) ?_
    refine Chain.op (φ := Is (.int .i64 (0))) (st_is _) (sp_move Has.cst) ?_
    refine Chain.done ⟨by kernel_rfl, fun a5 g W5 hsz5 hdf5 hk hg henv hrest hpsi => ?_⟩
    obtain ⟨e14, e13, -, -⟩ := henv
    replace e0 := (hrest 0 rfl).trans e0
    replace e1 := (hrest 1 rfl).trans e1
    replace e2 := (hrest 2 rfl).trans e2
    replace e3 := (hrest 3 rfl).trans e3
    replace D_v := D_v.ext hk
    have e13 : sl a5 13 = (.int .i64 (xs.length)) := e13
    have e14 : sl a5 14 = (.int .i64 (0)) := e14
    replace kw := kw.trans (.of_ext hk)
    clear hrest hk hg hpsi
    refine tail_nil (hK4 _ _ ?_)
    refine wp_block ?_
    refine wp_for (xs.length) (fun k a W => a.tmps.size = 55 ∧ a.defers = [] ∧ Keeps All w W ∧ sl a 0 = (.slice va (xs.length) vc) ∧ sl a 1 = (.int .i64 (level)) ∧ sl a 2 = (.pointer none) ∧ sl a 3 = (.bool (nested)) ∧ sl a 13 = (.int .i64 (xs.length)) ∧ sl a 14 = (.int .i64 ((k : Nat))) ∧ Rd W (SA w S []) (valsD (xs)) (.slice va (xs.length) vc)) ⟨hsz5, hdf5, kw, e0, e1, e2, e3, e13, (e14.trans (congrArg (Value.int .i64) (rfl))), D_v⟩ ?_
    clear kw e0 e1 e2 e3 e13 e14 D_v
    rintro k a6 W6 hkk ⟨hsz6, hdf6, kw, e0, e1, e2, e3, e13, e14, D_v⟩
    refine wp_seq_k fun K7 hK7 => ?_
    refine wp_reg All mixed hsz6 hdf6 st_tr trivial ?_
    refine Chain.op (φ := Is (.bool (decide (((k : Nat) : Int) < (xs.length : Int))))) (st_is _) (sp_lss (Has.base rfl e14) (Has.base rfl e13)) ?_
    refine Chain.done ⟨by kernel_rfl, fun a8 g W8 hsz8 hdf8 hk hg henv hrest hpsi => ?_⟩
    obtain ⟨e15, -⟩ := henv
    replace e0 := (hrest 0 rfl).trans e0
    replace e1 := (hrest 1 rfl).trans e1
    replace e2 := (hrest 2 rfl).trans e2
    replace e3 := (hrest 3 rfl).trans e3
    replace e13 := (hrest 13 rfl).trans e13
    replace e14 := (hrest 14 rfl).trans e14
    replace D_v := D_v.ext hk
    have e15 : sl a8 15 = (.bool (decide (((k : Nat) : Int) < (xs.length : Int)))) := e15
    replace kw := kw.trans (.of_ext hk)
    clear hrest hk hg hpsi
    refine tail_nil (hK7 _ _ ?_)
    refine wp_seq_k fun K9 hK9 => ?_
    refine wp_cond_split e15 (fun hc => ?_) (fun hc => ?_)
    · -- T: decide (((k : Nat) : Int) < (xs.length : Int))
      have hlt : k < xs.length := by simpa using hc
      have hce := cnt_elem hlt
      have hcq := cnt_eq xs[k]
      refine wp_skip (hK9 _ _ ?_)
      refine wp_seq_k fun K10 hK10 => ?_
      refine wp_block ?_
      refine wp_seq_k fun K11 hK11 => ?_
      refine wp_reg All mixed hsz8 hdf8 st_tr trivial ?_
      refine Chain.op (φ := Is (.int .i64 ((k : Nat)))) (st_is _) (sp_move (Has.base rfl e14)) ?_
      refine Chain.op (φ := Is (.int .i64 ((k : Nat)))) (st_is _) (sp_assign (Has.loc rfl)) ?_
      refine Chain.done ⟨by kernel_rfl, fun a12 g W12 hsz12 hdf12 hk hg henv hrest hpsi => ?_⟩
      obtain ⟨e9, -, -⟩ := henv
      replace e0 := (hrest 0 rfl).trans e0
      replace e1 := (hrest 1 rfl).trans e1
      replace e2 := (hrest 2 rfl).trans e2
      replace e3 := (hrest 3 rfl).trans e3
      replace e13 := (hrest 13 rfl).trans e13
      replace e14 := (hrest 14 rfl).trans e14
      replace D_v := D_v.ext hk
      have e9 : sl a12 9 = (.int .i64 ((k : Nat))) := e9
      replace kw := kw.trans (.of_ext hk)
      clear hrest hk hg hpsi
      refine tail_nil (hK11 _ _ ?_)
      refine wp_seq_k fun K13 hK13 => ?_
      refine wp_reg All mixed hsz12 hdf12 st_tr trivial ?_
      refine Chain.op (φ := Is (.slice va (xs.length) vc)) (st_is _) (sp_move (Has.base rfl e0)) ?_
      refine Chain.op (φ := Is (.int .i64 ((k : Nat)))) (st_is _) (sp_move (Has.base rfl e9)) ?_
      refine Chain.op (φ := IsR (SA w S []) (V.d (xs[k]'hlt))) (st_r sub_all) (sp_indexV (i := k) ((Has.loc rfl).dat D_v sub_all) (Has.loc rfl) Try.underlying31 sz33 rfl hlt) ?_
      refine Chain.op (φ := IsR (SA w S []) (V.d (xs[k]'hlt))) (st_r sub_all) (sp_assign (Has.loc rfl)) ?_
      refine Chain.done ⟨by kernel_rfl, fun a14 g W14 hsz14 hdf14 hk hg henv hrest hpsi => ?_⟩
      obtain ⟨e10, -, -, -, -⟩ := henv
      replace e0 := (hrest 0 rfl).trans e0
      replace e1 := (hrest 1 rfl).trans e1
      replace e2 := (hrest 2 rfl).trans e2
      replace e3 := (hrest 3 rfl).trans e3
      replace e13 := (hrest 13 rfl).trans e13
      replace e14 := (hrest 14 rfl).trans e14
      replace D_v := D_v.ext hk
      obtain ⟨v10_14, ev⟩ : ∃ v, sl a14 10 = v := ⟨_, rfl⟩
      rw [ev] at e10
      have D_v10_14 : Ref W14 (SA w S []) (V.d (xs[k]'hlt)) v10_14 := rsa_end e10 hk [] in_nil
      replace e10 := ev; clear ev
      replace kw := kw.trans (.of_ext hk)
      clear hrest hk hg hpsi
      refine tail_nil (hK13 _ _ ?_)
      refine wp_seq_k fun K15 hK15 => ?_
      refine wp_seq_k fun K16 hK16 => ?_
      refine wp_reg All mixed hsz14 hdf14 st_tr trivial ?_
      refine Chain.op (φ := Is (.bool (nested))) (st_is _) (sp_move (Has.base rfl e3)) ?_
      refine Chain.op (φ := Is (.bool (nested))) (st_is _) (sp_move (Has.loc rfl)) ?_
      refine Chain.opE (t := 21) (x := nested) (φ := Is v10_14) rfl (Has.loc rfl) (st_is _) (fun hg => sp_move (Has.base rfl e10)) ?_
      refine Chain.opE (t := 21) (x := nested) (φ := IsR (SA w S []) (V.d (xs[k]'hlt))) rfl (Has.loc rfl) (st_r sub_all) (fun hg => sp_nilR (((Has.loc rfl).undE hg).refd D_v10_14 sub_all)) ?_
      refine Chain.opE (t := 21) (x := nested) (φ := IsR (SA w S []) (D.int .u8 ((xs[k]'hlt).k))) rfl (Has.loc rfl) (st_r sub_all) (fun hg => sp_fieldV ((Has.loc rfl).undE hg) Try.underlying33 rfl sz5 rfl rfl) ?_
      refine Chain.opE (t := 21) (x := nested) (φ := Is (.int .u8 ((xs[k]'hlt).k))) rfl (Has.loc rfl) (st_is _) (fun hg => sp_loadInt ((Has.loc rfl).undE hg) agg5 sz5) ?_
      refine Chain.opE (t := 21) (x := nested) (φ := Is (.bool (((xs[k]'hlt).k : Int) != (4 : Int)))) rfl (Has.loc rfl) (st_is _) (fun hg => sp_neq ((Has.loc rfl).undE hg) Has.cst) ?_
      refine Chain.op (φ := Is (.bool (nested && (((xs[k]'hlt).k : Int) != (4 : Int))))) (st_is _) (sp_and (Has.loc rfl) ((Has.loc rfl).weak fun hq => hq)) ?_
      refine Chain.op (φ := Is (.bool (nested && (((xs[k]'hlt).k : Int) != (4 : Int))))) (st_is _) (sp_move (Has.loc rfl)) ?_
      refine Chain.opE (t := 28) (x := nested && (((xs[k]'hlt).k : Int) != (4 : Int))) (φ := Is v10_14) rfl (Has.loc rfl) (st_is _) (fun hg => sp_move (Has.base rfl e10)) ?_
      refine Chain.opE (t := 28) (x := nested && (((xs[k]'hlt).k : Int) != (4 : Int))) (φ := IsR (SA w S []) (V.d (xs[k]'hlt))) rfl (Has.loc rfl) (st_r sub_all) (fun hg => sp_nilR (((Has.loc rfl).undE hg).refd D_v10_14 sub_all)) ?_
      refine Chain.opE (t := 28) (x := nested && (((xs[k]'hlt).k : Int) != (4 : Int))) (φ := IsR (SA w S []) (D.int .u8 ((xs[k]'hlt).k))) rfl (Has.loc rfl) (st_r sub_all) (fun hg => sp_fieldV ((Has.loc rfl).undE hg) Try.underlying33 rfl sz5 rfl rfl) ?_
      refine Chain.opE (t := 28) (x := nested && (((xs[k]'hlt).k : Int) != (4 : Int))) (φ := Is (.int .u8 ((xs[k]'hlt).k))) rfl (Has.loc rfl) (st_is _) (fun hg => sp_loadInt ((Has.loc rfl).undE hg) agg5 sz5) ?_
      refine Chain.opE (t := 28) (x := nested && (((xs[k]'hlt).k : Int) != (4 : Int))) (φ := Is (.bool (((xs[k]'hlt).k : Int) != (5 : Int)))) rfl (Has.loc rfl) (st_is _) (fun hg => sp_neq ((Has.loc rfl).undE hg) Has.cst) ?_
      refine Chain.op (φ := Is (.bool ((nested && (((xs[k]'hlt).k : Int) != (4 : Int))) && (((xs[k]'hlt).k : Int) != (5 : Int))))) (st_is _) (sp_and (Has.loc rfl) ((Has.loc rfl).weak fun hq => hq)) ?_
      refine Chain.done ⟨by kernel_rfl, fun a17 g W17 hsz17 hdf17 hk hg henv hrest hpsi => ?_⟩
      obtain ⟨e34, -, -, -, -, -, -, -, -, -, -, -, -, -, -, -⟩ := henv
      replace e0 := (hrest 0 rfl).trans e0
      replace e1 := (hrest 1 rfl).trans e1
      replace e2 := (hrest 2 rfl).trans e2
      replace e3 := (hrest 3 rfl).trans e3
      replace e13 := (hrest 13 rfl).trans e13
      replace e14 := (hrest 14 rfl).trans e14
      replace e10 := (hrest 10 rfl).trans e10
      replace D_v := D_v.ext hk
      replace D_v10_14 := D_v10_14.ext hk
      have e34 : sl a17 34 = (.bool ((nested && (((xs[k]'hlt).k : Int) != (4 : Int))) && (((xs[k]'hlt).k : Int) != (5 : Int)))) := e34
      replace kw := kw.trans (.of_ext hk)
      clear hrest hk hg hpsi
      refine tail_nil (hK16 _ _ ?_)
      refine wp_cond_split e34 (fun hc => ?_) (fun hc => ?_)
      · -- T: (nested && (((xs[k]'hlt).k : Int) != (4 : Int))) && (((xs[k]'hlt).k : Int) != (5
        refine wp_exit (hK10 _ _ ?_)
        refine wp_reg All mixed hsz17 hdf17 st_tr trivial ?_
        refine Chain.op (φ := Is (.int .i64 (((k : Nat) : Int) + (1 : Int)))) (st_is _) (sp_add (Has.base rfl e14) Has.cst (i64_in (by omega))) ?_
        refine Chain.op (φ := Is (.int .i64 (((k : Nat) : Int) + (1 : Int)))) (st_is _) (sp_move (Has.loc rfl)) ?_
        refine Chain.done ⟨by kernel_rfl, fun a18 g W18 hsz18 hdf18 hk hg henv hrest hpsi => ?_⟩
        obtain ⟨e14, -, -⟩ := henv
        replace e0 := (hrest 0 rfl).trans e0
        replace e1 := (hrest 1 rfl).trans e1
        replace e2 := (hrest 2 rfl).trans e2
        replace e3 := (hrest 3 rfl).trans e3
        replace e13 := (hrest 13 rfl).trans e13
        replace D_v := D_v.ext hk
        replace D_v10_14 := D_v10_14.ext hk
        have e14 : sl a18 14 = (.int .i64 (((k : Nat) : Int) + (1 : Int))) := e14
        replace kw := kw.trans (.of_ext hk)
        clear hrest hk hg hpsi
        exact tail_nil ⟨hlt, hsz18, hdf18, kw, e0, e1, e2, e3, e13, (e14.trans (congrArg (Value.int .i64) (by simp))), D_v⟩
      · -- E: (nested && (((xs[k]'hlt).k : Int) != (4 : Int))) && (((xs[k]'hlt).k : Int) != (5
        refine wp_skip (hK15 _ _ ?_)
        refine wp_seq_k fun K19 hK19 => ?_
        refine wp_seq_k fun K20 hK20 => ?_
        refine wp_reg All mixed hsz17 hdf17 st_tr trivial ?_
        refine Chain.op (φ := Is v10_14) (st_is _) (sp_move (Has.base rfl e10)) ?_
        refine Chain.op (φ := Is (.pointer none)) (st_is _) (sp_move (Has.base rfl e2)) ?_
        refine Chain.op (φ := Is (.bool (false))) (st_is _) (sp_refNil Try.underlying98 ((Has.loc rfl).refd D_v10_14 sub_all) (Has.loc rfl)) ?_
        refine Chain.done ⟨by kernel_rfl, fun a21 g W21 hsz21 hdf21 hk hg henv hrest hpsi => ?_⟩
        obtain ⟨e37, -, -, -⟩ := henv
        replace e0 := (hrest 0 rfl).trans e0
        replace e1 := (hrest 1 rfl).trans e1
        replace e2 := (hrest 2 rfl).trans e2
        replace e3 := (hrest 3 rfl).trans e3
        replace e13 := (hrest 13 rfl).trans e13
        replace e14 := (hrest 14 rfl).trans e14
        replace e10 := (hrest 10 rfl).trans e10
        replace D_v := D_v.ext hk
        replace D_v10_14 := D_v10_14.ext hk
        have e37 : sl a21 37 = (.bool (false)) := e37
        replace kw := kw.trans (.of_ext hk)
        clear hrest hk hg hpsi
        refine tail_nil (hK20 _ _ ?_)
        refine wp_cond_false e37 ?_
        refine wp_skip (hK19 _ _ ?_)
        refine wp_seq_k fun K22 hK22 => ?_
        refine wp_reg All mixed hsz21 hdf21 st_tr trivial ?_
        refine Chain.op (φ := Is (.pointer none)) (st_is _) (sp_move (Has.base rfl e2)) ?_
        refine Chain.op (φ := Is (.pointer none)) (st_is _) (sp_assign (Has.loc rfl)) ?_
        refine Chain.done ⟨by kernel_rfl, fun a23 g W23 hsz23 hdf23 hk hg henv hrest hpsi => ?_⟩
        obtain ⟨e11, -, -⟩ := henv
        replace e0 := (hrest 0 rfl).trans e0
        replace e1 := (hrest 1 rfl).trans e1
        replace e2 := (hrest 2 rfl).trans e2
        replace e3 := (hrest 3 rfl).trans e3
        replace e13 := (hrest 13 rfl).trans e13
        replace e14 := (hrest 14 rfl).trans e14
        replace e10 := (hrest 10 rfl).trans e10
        replace D_v := D_v.ext hk
        replace D_v10_14 := D_v10_14.ext hk
        have e11 : sl a23 11 = (.pointer none) := e11
        replace kw := kw.trans (.of_ext hk)
        clear hrest hk hg hpsi
        refine tail_nil (hK22 _ _ ?_)
        refine wp_seq_k fun K24 hK24 => ?_
        refine wp_seq_k fun K25 hK25 => ?_
        refine wp_reg All mixed hsz23 hdf23 st_tr trivial ?_
        refine Chain.op (φ := Is (.int .i64 (level))) (st_is _) (sp_move (Has.base rfl e1)) ?_
        refine Chain.op (φ := Is (.int .i64 (level))) (st_is _) (sp_move (Has.base rfl e1)) ?_
        refine Chain.op (φ := Is (.int .i64 ((level : Int) - (1 : Int)))) (st_is _) (sp_sub (Has.loc rfl) Has.cst (i64_in (by omega))) ?_
        refine Chain.op (φ := Is (.int .i64 (IntKind.i64.wrap (BitVec.ofInt 64 (level) &&& BitVec.ofInt 64 ((level : Int) - (1 : Int))).toNat))) (st_is _) (sp_band (Has.loc rfl) (Has.loc rfl)) ?_
        refine Chain.op (φ := Is (.bool ((IntKind.i64.wrap (BitVec.ofInt 64 (level) &&& BitVec.ofInt 64 ((level : Int) - (1 : Int))).toNat : Int) == (0 : Int)))) (st_is _) (sp_eql (Has.loc rfl) Has.cst) ?_
        refine Chain.done ⟨by kernel_rfl, fun a26 g W26 hsz26 hdf26 hk hg henv hrest hpsi => ?_⟩
        obtain ⟨e43, -, -, -, -, -⟩ := henv
        replace e0 := (hrest 0 rfl).trans e0
        replace e1 := (hrest 1 rfl).trans e1
        replace e2 := (hrest 2 rfl).trans e2
        replace e3 := (hrest 3 rfl).trans e3
        replace e13 := (hrest 13 rfl).trans e13
        replace e14 := (hrest 14 rfl).trans e14
        replace e10 := (hrest 10 rfl).trans e10
        replace e11 := (hrest 11 rfl).trans e11
        replace D_v := D_v.ext hk
        replace D_v10_14 := D_v10_14.ext hk
        have e43 : sl a26 43 = (.bool ((IntKind.i64.wrap (BitVec.ofInt 64 (level) &&& BitVec.ofInt 64 ((level : Int) - (1 : Int))).toNat : Int) == (0 : Int))) := e43
        replace kw := kw.trans (.of_ext hk)
        clear hrest hk hg hpsi
        refine tail_nil (hK25 _ _ ?_)
        refine wp_cond_split e43 (fun hc => ?_) (fun hc => ?_)
        · -- T: (IntKind.i64.wrap (BitVec.ofInt 64 (level) &&& BitVec.ofInt 64 ((level : Int) - 
          refine wp_reg All mixed hsz26 hdf26 st_tr trivial ?_
          refine Chain.op (φ := Is v10_14) (st_is _) (sp_move (Has.base rfl e10)) ?_
          refine Chain.op (φ := Is v10_14) (st_is _) (sp_assign (Has.loc rfl)) ?_
          refine Chain.done ⟨by kernel_rfl, fun a27 g W27 hsz27 hdf27 hk hg henv hrest hpsi => ?_⟩
          obtain ⟨e11, -, -⟩ := henv
          replace e0 := (hrest 0 rfl).trans e0
          replace e1 := (hrest 1 rfl).trans e1
          replace e2 := (hrest 2 rfl).trans e2
          replace e3 := (hrest 3 rfl).trans e3
          replace e13 := (hrest 13 rfl).trans e13
          replace e14 := (hrest 14 rfl).trans e14
          replace e10 := (hrest 10 rfl).trans e10
          replace D_v := D_v.ext hk
          replace D_v10_14 := D_v10_14.ext hk
          have e11 : sl a27 11 = v10_14 := e11
          replace kw := kw.trans (.of_ext hk)
          clear hrest hk hg hpsi
          refine tail_nil (hK24 _ _ ?_)
          refine wp_seq_k fun K28 hK28 => ?_
          refine wp_reg All mixed hsz27 hdf27 st_tr trivial ?_
          refine Chain.op (φ := Is v10_14) (st_is _) (sp_move (Has.base rfl e10)) ?_
          refine Chain.op (φ := IsR (SA w S []) (V.d (xs[k]'hlt))) (st_r sub_all) (sp_nilR ((Has.loc rfl).refd D_v10_14 sub_all)) ?_
          refine Chain.op (φ := IsR (SA w S []) (valsD ((xs[k]'hlt).xs))) (st_r sub_all) (sp_fieldV (Has.loc rfl) Try.underlying33 rfl sz31 rfl rfl) ?_
          refine Chain.op (φ := IsD (SA w S []) (valsD ((xs[k]'hlt).xs))) (st_d sub_all) (sp_loadR (Has.loc rfl) agg31 sz31 rfl) ?_
          refine Chain.op (φ := Is (.int .i64 (level))) (st_is _) (sp_move (Has.base rfl e1)) ?_
          refine Chain.op (φ := Is (.int .i64 ((level : Int) + (1 : Int)))) (st_is _) (sp_add (Has.loc rfl) Has.cst (i64_in (by omega))) ?_
          refine Chain.op (φ := Is v10_14) (st_is _) (sp_move (Has.base rfl e11)) ?_
          refine Chain.op (φ := Is (.bool (nested))) (st_is _) (sp_move (Has.base rfl e3)) ?_
          refine Chain.op (φ := Is (.bool (false))) (st_is _) (sp_call4 (φ1 := IsD (SA w S []) (valsD ((xs[k]'hlt).xs))) (φ2 := Is (.int .i64 ((level : Int) + (1 : Int)))) (φ3 := IsR (SA w S []) (V.d (xs[k]'hlt))) (φ4 := Is (.bool (nested))) ent51 (Has.loc rfl) (Has.loc rfl) ((Has.loc rfl).refd D_v10_14 sub_all) (Has.loc rfl) (fun g u1 u2 u3 u4 W hk hgk h1 h2 h3 h4 => by have h2 : u2 = _ := h2; subst u2; have h4 : u4 = _ := h4; subst u4; exact ih ((xs[k]'hlt).xs) (by omega) ((level : Int) + (1 : Int)) (by omega) (by omega) (nested) _ W _ _ (fun b o h => sa_cln hS b o h.1) h1 (Or.inr ⟨_, h3, by omega⟩))) ?_
          refine Chain.done ⟨by kernel_rfl, fun a29 g W29 hsz29 hdf29 hk hg henv hrest hpsi => ?_⟩
          obtain ⟨e53, -, -, -, -, -, -, -, -, -⟩ := henv
          replace e0 := (hrest 0 rfl).trans e0
          replace e1 := (hrest 1 rfl).trans e1
          replace e2 := (hrest 2 rfl).trans e2
          replace e3 := (hrest 3 rfl).trans e3
          replace e13 := (hrest 13 rfl).trans e13
          replace e14 := (hrest 14 rfl).trans e14
          replace D_v := D_v.ext hk
          replace D_v10_14 := D_v10_14.ext hk
          have e53 : sl a29 53 = (.bool (false)) := e53
          replace kw := kw.trans (.of_ext hk)
          clear hrest hk hg hpsi
          refine tail_nil (hK28 _ _ ?_)
          refine wp_cond_false e53 ?_
          refine wp_skip (hK10 _ _ ?_)
          refine wp_reg All mixed hsz29 hdf29 st_tr trivial ?_
          refine Chain.op (φ := Is (.int .i64 (((k : Nat) : Int) + (1 : Int)))) (st_is _) (sp_add (Has.base rfl e14) Has.cst (i64_in (by omega))) ?_
          refine Chain.op (φ := Is (.int .i64 (((k : Nat) : Int) + (1 : Int)))) (st_is _) (sp_move (Has.loc rfl)) ?_
          refine Chain.done ⟨by kernel_rfl, fun a30 g W30 hsz30 hdf30 hk hg henv hrest hpsi => ?_⟩
          obtain ⟨e14, -, -⟩ := henv
          replace e0 := (hrest 0 rfl).trans e0
          replace e1 := (hrest 1 rfl).trans e1
          replace e2 := (hrest 2 rfl).trans e2
          replace e3 := (hrest 3 rfl).trans e3
          replace e13 := (hrest 13 rfl).trans e13
          replace D_v := D_v.ext hk
          have e14 : sl a30 14 = (.int .i64 (((k : Nat) : Int) + (1 : Int))) := e14
          replace kw := kw.trans (.of_ext hk)
          clear hrest hk hg hpsi
          exact tail_nil ⟨hlt, hsz30, hdf30, kw, e0, e1, e2, e3, e13, (e14.trans (congrArg (Value.int .i64) (by simp))), D_v⟩
        · -- E: (IntKind.i64.wrap (BitVec.ofInt 64 (level) &&& BitVec.ofInt 64 ((level : Int) - 
          refine wp_skip (hK24 _ _ ?_)
          refine wp_seq_k fun K31 hK31 => ?_
          refine wp_reg All mixed hsz26 hdf26 st_tr trivial ?_
          refine Chain.op (φ := Is v10_14) (st_is _) (sp_move (Has.base rfl e10)) ?_
          refine Chain.op (φ := IsR (SA w S []) (V.d (xs[k]'hlt))) (st_r sub_all) (sp_nilR ((Has.loc rfl).refd D_v10_14 sub_all)) ?_
          refine Chain.op (φ := IsR (SA w S []) (valsD ((xs[k]'hlt).xs))) (st_r sub_all) (sp_fieldV (Has.loc rfl) Try.underlying33 rfl sz31 rfl rfl) ?_
          refine Chain.op (φ := IsD (SA w S []) (valsD ((xs[k]'hlt).xs))) (st_d sub_all) (sp_loadR (Has.loc rfl) agg31 sz31 rfl) ?_
          refine Chain.op (φ := Is (.int .i64 (level))) (st_is _) (sp_move (Has.base rfl e1)) ?_
          refine Chain.op (φ := Is (.int .i64 ((level : Int) + (1 : Int)))) (st_is _) (sp_add (Has.loc rfl) Has.cst (i64_in (by omega))) ?_
          refine Chain.op (φ := Is (.pointer none)) (st_is _) (sp_move (Has.base rfl e11)) ?_
          refine Chain.op (φ := Is (.bool (nested))) (st_is _) (sp_move (Has.base rfl e3)) ?_
          refine Chain.op (φ := Is (.bool (false))) (st_is _) (sp_call4 (φ1 := IsD (SA w S []) (valsD ((xs[k]'hlt).xs))) (φ2 := Is (.int .i64 ((level : Int) + (1 : Int)))) (φ3 := Is (.pointer none)) (φ4 := Is (.bool (nested))) ent51 (Has.loc rfl) (Has.loc rfl) (Has.loc rfl) (Has.loc rfl) (fun g u1 u2 u3 u4 W hk hgk h1 h2 h3 h4 => by have h2 : u2 = _ := h2; subst u2; have h3 : u3 = _ := h3; subst u3; have h4 : u4 = _ := h4; subst u4; exact ih ((xs[k]'hlt).xs) (by omega) ((level : Int) + (1 : Int)) (by omega) (by omega) (nested) _ W _ _ (fun b o h => sa_cln hS b o h.1) h1 (Or.inl rfl))) ?_
          refine Chain.done ⟨by kernel_rfl, fun a32 g W32 hsz32 hdf32 hk hg henv hrest hpsi => ?_⟩
          obtain ⟨e53, -, -, -, -, -, -, -, -, -⟩ := henv
          replace e0 := (hrest 0 rfl).trans e0
          replace e1 := (hrest 1 rfl).trans e1
          replace e2 := (hrest 2 rfl).trans e2
          replace e3 := (hrest 3 rfl).trans e3
          replace e13 := (hrest 13 rfl).trans e13
          replace e14 := (hrest 14 rfl).trans e14
          replace D_v := D_v.ext hk
          replace D_v10_14 := D_v10_14.ext hk
          have e53 : sl a32 53 = (.bool (false)) := e53
          replace kw := kw.trans (.of_ext hk)
          clear hrest hk hg hpsi
          refine tail_nil (hK31 _ _ ?_)
          refine wp_cond_false e53 ?_
          refine wp_skip (hK10 _ _ ?_)
          refine wp_reg All mixed hsz32 hdf32 st_tr trivial ?_
          refine Chain.op (φ := Is (.int .i64 (((k : Nat) : Int) + (1 : Int)))) (st_is _) (sp_add (Has.base rfl e14) Has.cst (i64_in (by omega))) ?_
          refine Chain.op (φ := Is (.int .i64 (((k : Nat) : Int) + (1 : Int)))) (st_is _) (sp_move (Has.loc rfl)) ?_
          refine Chain.done ⟨by kernel_rfl, fun a33 g W33 hsz33 hdf33 hk hg henv hrest hpsi => ?_⟩
          obtain ⟨e14, -, -⟩ := henv
          replace e0 := (hrest 0 rfl).trans e0
          replace e1 := (hrest 1 rfl).trans e1
          replace e2 := (hrest 2 rfl).trans e2
          replace e3 := (hrest 3 rfl).trans e3
          replace e13 := (hrest 13 rfl).trans e13
          replace D_v := D_v.ext hk
          have e14 : sl a33 14 = (.int .i64 (((k : Nat) : Int) + (1 : Int))) := e14
          replace kw := kw.trans (.of_ext hk)
          clear hrest hk hg hpsi
          exact tail_nil ⟨hlt, hsz33, hdf33, kw, e0, e1, e2, e3, e13, (e14.trans (congrArg (Value.int .i64) (by simp))), D_v⟩
    · -- E: decide (((k : Nat) : Int) < (xs.length : Int))
      have hge0 : ¬ k < xs.length := by simpa using hc
      have hge : k = xs.length := by omega
      refine wp_exit (hK3 _ _ ?_)
      refine wp_seq_k fun K34 hK34 => ?_
      refine wp_reg All mixed hsz8 hdf8 st_tr trivial ?_
      refine Chain.op (φ := Is (.bool (false))) (st_is _) (sp_assign Has.cst) ?_
      refine Chain.done ⟨by kernel_rfl, fun a35 g W35 hsz35 hdf35 hk hg henv hrest hpsi => ?_⟩
      obtain ⟨e8, -⟩ := henv
      replace D_v := D_v.ext hk
      have e8 : sl a35 8 = (.bool (false)) := e8
      replace kw := kw.trans (.of_ext hk)
      clear hrest hk hg hpsi
      refine tail_nil (hK34 _ _ ?_)
      refine wp_ret ?_
      refine (show bodyPost Try.prog Try.f51 _ .ret _ _ from ret1 rfl hdf35 e8 ⟨_, rfl, kw, ?_⟩)
      exact rfl
  · skip
    obtain ⟨va, vc, ev, D_v⟩ := rdVs_out (rd_arg hv)
    subst ev
    have D_p := ref_arg hy
    refine enter Try.func51 rfl Try.ntmps51 (Nat.le_of_ble_eq_true rfl) fun a0 hsz0 hdf0 harg => ?_
    have e0 : sl a0 0 = (.slice va (xs.length) vc) := harg 0 (Nat.le_of_ble_eq_true rfl)
    have e1 : sl a0 1 = (.int .i64 (level)) := harg 1 (Nat.le_of_ble_eq_true rfl)
    have e2 : sl a0 2 = p := harg 2 (Nat.le_of_ble_eq_true rfl)
    have e3 : sl a0 3 = (.bool (nested)) := harg 3 (Nat.le_of_ble_eq_true rfl)
    have kw := Keeps.refl All w
    clear harg
    refine wp_seq_k fun K1 hK1 => ?_
    refine wp_reg All mixed hsz0 hdf0 st_tr trivial ?_
    refine Chain.op (φ := Is (.bool (false))) (st_is _) (sp_assign Has.cst) ?_
    refine Chain.done ⟨by kernel_rfl, fun a2 g W2 hsz2 hdf2 hk hg henv hrest hpsi => ?_⟩
    obtain ⟨-, -⟩ := henv
    replace e0 := (hrest 0 rfl).trans e0
    replace e1 := (hrest 1 rfl).trans e1
    replace e2 := (hrest 2 rfl).trans e2
    replace e3 := (hrest 3 rfl).trans e3
    replace D_v := D_v.ext hk
    replace D_p := D_p.ext hk
    replace kw := kw.trans (.of_ext hk)
    clear hrest hk hg hpsi
    refine tail_nil (hK1 _ _ ?_)
    refine wp_seq_k fun K3 hK3 => ?_
    refine wp_seq_k fun K4 hK4 => ?_
    refine wp_reg All mixed hsz2 hdf2 st_tr trivial ?_
    refine Chain.op (φ := Is (.slice va (xs.length) vc)) (st_is _) (sp_move (Has.base rfl e0)) ?_
    refine Chain.op (φ := Is (.int .i64 (xs.length))) (st_is _) (sp_lenVs Try.underlying31 ((Has.loc rfl).dat D_v sub_all)) ?_
    refine Chain.op (φ := Is (.int .i64 (0))) (st_is _) (sp_move Has.cst) ?_
    refine Chain.done ⟨by kernel_rfl, fun a5 g W5 hsz5 hdf5 hk hg henv hrest hpsi => ?_⟩
    obtain ⟨e14, e13, -, -⟩ := henv
    replace e0 := (hrest 0 rfl).trans e0
    replace e1 := (hrest 1 rfl).trans e1
    replace e2 := (hrest 2 rfl).trans e2
    replace e3 := (hrest 3 rfl).trans e3
    replace D_v := D_v.ext hk
    replace D_p := D_p.ext hk
    have e13 : sl a5 13 = (.int .i64 (xs.length)) := e13
    have e14 : sl a5 14 = (.int .i64 (0)) := e14
    replace kw := kw.trans (.of_ext hk)
    clear hrest hk hg hpsi
    refine tail_nil (hK4 _ _ ?_)
    refine wp_block ?_
    refine wp_for (xs.length) (fun k a W => a.tmps.size = 55 ∧ a.defers = [] ∧ Keeps All w W ∧ sl a 0 = (.slice va (xs.length) vc) ∧ sl a 1 = (.int .i64 (level)) ∧ sl a 2 = p ∧ sl a 3 = (.bool (nested)) ∧ sl a 13 = (.int .i64 (xs.length)) ∧ sl a 14 = (.int .i64 ((k : Nat))) ∧ Rd W (SA w S []) (valsD (xs)) (.slice va (xs.length) vc) ∧ Ref W (SA w S []) (V.d (y)) p) ⟨hsz5, hdf5, kw, e0, e1, e2, e3, e13, (e14.trans (congrArg (Value.int .i64) (rfl))), D_v, D_p⟩ ?_
    clear kw e0 e1 e2 e3 e13 e14 D_v D_p
    rintro k a6 W6 hkk ⟨hsz6, hdf6, kw, e0, e1, e2, e3, e13, e14, D_v, D_p⟩
    refine wp_seq_k fun K7 hK7 => ?_
    refine wp_reg All mixed hsz6 hdf6 st_tr trivial ?_
    refine Chain.op (φ := Is (.bool (decide (((k : Nat) : Int) < (xs.length : Int))))) (st_is _) (sp_lss (Has.base rfl e14) (Has.base rfl e13)) ?_
    refine Chain.done ⟨by kernel_rfl, fun a8 g W8 hsz8 hdf8 hk hg henv hrest hpsi => ?_⟩
    obtain ⟨e15, -⟩ := henv
    replace e0 := (hrest 0 rfl).trans e0
    replace e1 := (hrest 1 rfl).trans e1
    replace e2 := (hrest 2 rfl).trans e2
    replace e3 := (hrest 3 rfl).trans e3
    replace e13 := (hrest 13 rfl).trans e13
    replace e14 := (hrest 14 rfl).trans e14
    replace D_v := D_v.ext hk
    replace D_p := D_p.ext hk
    have e15 : sl a8 15 = (.bool (decide (((k : Nat) : Int) < (xs.length : Int)))) := e15
    replace kw := kw.trans (.of_ext hk)
    clear hrest hk hg hpsi
    refine tail_nil (hK7 _ _ ?_)
    refine wp_seq_k fun K9 hK9 => ?_
    refine wp_cond_split e15 (fun hc => ?_) (fun hc => ?_)
    · -- T: decide (((k : Nat) : Int) < (xs.length : Int))
      have hlt : k < xs.length := by simpa using hc
      have hce := cnt_elem hlt
      have hcq := cnt_eq xs[k]
      refine wp_skip (hK9 _ _ ?_)
      refine wp_seq_k fun K10 hK10 => ?_
      refine wp_block ?_
      refine wp_seq_k fun K11 hK11 => ?_
      refine wp_reg All mixed hsz8 hdf8 st_tr trivial ?_
      refine Chain.op (φ := Is (.int .i64 ((k : Nat)))) (st_is _) (sp_move (Has.base rfl e14)) ?_
      refine Chain.op (φ := Is (.int .i64 ((k : Nat)))) (st_is _) (sp_assign (Has.loc rfl)) ?_
      refine Chain.done ⟨by kernel_rfl, fun a12 g W12 hsz12 hdf12 hk hg henv hrest hpsi => ?_⟩
      obtain ⟨e9, -, -⟩ := henv
      replace e0 := (hrest 0 rfl).trans e0
      replace e1 := (hrest 1 rfl).trans e1
      replace e2 := (hrest 2 rfl).trans e2
      replace e3 := (hrest 3 rfl).trans e3
      replace e13 := (hrest 13 rfl).trans e13
      replace e14 := (hrest 14 rfl).trans e14
      replace D_v := D_v.ext hk
      replace D_p := D_p.ext hk
      have e9 : sl a12 9 = (.int .i64 ((k : Nat))) := e9
      replace kw := kw.trans (.of_ext hk)
      clear hrest hk hg hpsi
      refine tail_nil (hK11 _ _ ?_)
      refine wp_seq_k fun K13 hK13 => ?_
      refine wp_reg All mixed hsz12 hdf12 st_tr trivial ?_
      refine Chain.op (φ := Is (.slice va (xs.length) vc)) (st_is _) (sp_move (Has.base rfl e0)) ?_
      refine Chain.op (φ := Is (.int .i64 ((k : Nat)))) (st_is _) (sp_move (Has.base rfl e9)) ?_
      refine Chain.op (φ := IsR (SA w S []) (V.d (xs[k]'hlt))) (st_r sub_all) (sp_indexV (i := k) ((Has.loc rfl).dat D_v sub_all) (Has.loc rfl) Try.underlying31 sz33 rfl hlt) ?_
      refine Chain.op (φ := IsR (SA w S []) (V.d (xs[k]'hlt))) (st_r sub_all) (sp_assign (Has.loc rfl)) ?_
      refine Chain.done ⟨by kernel_rfl, fun a14 g W14 hsz14 hdf14 hk hg henv hrest hpsi => ?_⟩
      obtain ⟨e10, -, -, -, -⟩ := henv
      replace e0 := (hrest 0 rfl).trans e0
      replace e1 := (hrest 1 rfl).trans e1
      replace e2 := (hrest 2 rfl).trans e2
      replace e3 := (hrest 3 rfl).trans e3
      replace e13 := (hrest 13 rfl).trans e13
      replace e14 := (hrest 14 rfl).trans e14
      replace D_v := D_v.ext hk
      replace D_p := D_p.ext hk
      obtain ⟨v10_14, ev⟩ : ∃ v, sl a14 10 = v := ⟨_, rfl⟩
      rw [ev] at e10
      have D_v10_14 : Ref W14 (SA w S []) (V.d (xs[k]'hlt)) v10_14 := rsa_end e10 hk [] in_nil
      replace e10 := ev; clear ev
      replace kw := kw.trans (.of_ext hk)
      clear hrest hk hg hpsi
      refine tail_nil (hK13 _ _ ?_)
      refine wp_seq_k fun K15 hK15 => ?_
      refine wp_seq_k fun K16 hK16 => ?_
      refine wp_reg All mixed hsz14 hdf14 st_tr trivial ?_
      refine Chain.op (φ := Is (.bool (nested))) (st_is _) (sp_move (Has.base rfl e3)) ?_
      refine Chain.op (φ := Is (.bool (nested))) (st_is _) (sp_move (Has.loc rfl)) ?_
      refine Chain.opE (t := 21) (x := nested) (φ := Is v10_14) rfl (Has.loc rfl) (st_is _) (fun hg => sp_move (Has.base rfl e10)) ?_
      refine Chain.opE (t := 21) (x := nested) (φ := IsR (SA w S []) (V.d (xs[k]'hlt))) rfl (Has.loc rfl) (st_r sub_all) (fun hg => sp_nilR (((Has.loc rfl).undE hg).refd D_v10_14 sub_all)) ?_
      refine Chain.opE (t := 21) (x := nested) (φ := IsR (SA w S []) (D.int .u8 ((xs[k]'hlt).k))) rfl (Has.loc rfl) (st_r sub_all) (fun hg => sp_fieldV ((Has.loc rfl).undE hg) Try.underlying33 rfl sz5 rfl rfl) ?_
      refine Chain.opE (t := 21) (x := nested) (φ := Is (.int .u8 ((xs[k]'hlt).k))) rfl (Has.loc rfl) (st_is _) (fun hg => sp_loadInt ((Has.loc rfl).undE hg) agg5 sz5) ?_
      refine Chain.opE (t := 21) (x := nested) (φ := Is (.bool (((xs[k]'hlt).k : Int) != (4 : Int)))) rfl (Has.loc rfl) (st_is _) (fun hg => sp_neq ((Has.loc rfl).undE hg) Has.cst) ?_
      refine Chain.op (φ := Is (.bool (nested && (((xs[k]'hlt).k : Int) != (4 : Int))))) (st_is _) (sp_and (Has.loc rfl) ((Has.loc rfl).weak fun hq => hq)) ?_
      refine Chain.op (φ := Is (.bool (nested && (((xs[k]'hlt).k : Int) != (4 : Int))))) (st_is _) (sp_move (Has.loc rfl)) ?_
      refine Chain.opE (t := 28) (x := nested && (((xs[k]'hlt).k : Int) != (4 : Int))) (φ := Is v10_14) rfl (Has.loc rfl) (st_is _) (fun hg => sp_move (Has.base rfl e10)) ?_
      refine Chain.opE (t := 28) (x := nested && (((xs[k]'hlt).k : Int) != (4 : Int))) (φ := IsR (SA w S []) (V.d (xs[k]'hlt))) rfl (Has.loc rfl) (st_r sub_all) (fun hg => sp_nilR (((Has.loc rfl).undE hg).refd D_v10_14 sub_all)) ?_
      refine Chain.opE (t := 28) (x := nested && (((xs[k]'hlt).k : Int) != (4 : Int))) (φ := IsR (SA w S []) (D.int .u8 ((xs[k]'hlt).k))) rfl (Has.loc rfl) (st_r sub_all) (fun hg => sp_fieldV ((Has.loc rfl).undE hg) Try.underlying33 rfl sz5 rfl rfl) ?_
      refine Chain.opE (t := 28) (x := nested && (((xs[k]'hlt).k : Int) != (4 : Int))) (φ := Is (.int .u8 ((xs[k]'hlt).k))) rfl (Has.loc rfl) (st_is _) (fun hg => sp_loadInt ((Has.loc rfl).undE hg) agg5 sz5) ?_
      refine Chain.opE (t := 28) (x := nested && (((xs[k]'hlt).k : Int) != (4 : Int))) (φ := Is (.bool (((xs[k]'hlt).k : Int) != (5 : Int)))) rfl (Has.loc rfl) (st_is _) (fun hg => sp_neq ((Has.loc rfl).undE hg) Has.cst) ?_
      refine Chain.op (φ := Is (.bool ((nested && (((xs[k]'hlt).k : Int) != (4 : Int))) && (((xs[k]'hlt).k : Int) != (5 : Int))))) (st_is _) (sp_and (Has.loc rfl) ((Has.loc rfl).weak fun hq => hq)) ?_
      refine Chain.done ⟨by kernel_rfl, fun a17 g W17 hsz17 hdf17 hk hg henv hrest hpsi => ?_⟩
      obtain ⟨e34, -, -, -, -, -, -, -, -, -, -, -, -, -, -, -⟩ := henv
      replace e0 := (hrest 0 rfl).trans e0
      replace e1 := (hrest 1 rfl).trans e1
      replace e2 := (hrest 2 rfl).trans e2
      replace e3 := (hrest 3 rfl).trans e3
      replace e13 := (hrest 13 rfl).trans e13
      replace e14 := (hrest 14 rfl).trans e14
      replace e10 := (hrest 10 rfl).trans e10
      replace D_v := D_v.ext hk
      replace D_p := D_p.ext hk
      replace D_v10_14 := D_v10_14.ext hk
      have e34 : sl a17 34 = (.bool ((nested && (((xs[k]'hlt).k : Int) != (4 : Int))) && (((xs[k]'hlt).k : Int) != (5 : Int)))) := e34
      replace kw := kw.trans (.of_ext hk)
      clear hrest hk hg hpsi
      refine tail_nil (hK16 _ _ ?_)
      refine wp_cond_split e34 (fun hc => ?_) (fun hc => ?_)
      · -- T: (nested && (((xs[k]'hlt).k : Int) != (4 : Int))) && (((xs[k]'hlt).k : Int) != (5
        refine wp_exit (hK10 _ _ ?_)
        refine wp_reg All mixed hsz17 hdf17 st_tr trivial ?_
        refine Chain.op (φ := Is (.int .i64 (((k : Nat) : Int) + (1 : Int)))) (st_is _) (sp_add (Has.base rfl e14) Has.cst (i64_in (by omega))) ?_
        refine Chain.op (φ := Is (.int .i64 (((k : Nat) : Int) + (1 : Int)))) (st_is _) (sp_move (Has.loc rfl)) ?_
        refine Chain.done ⟨by kernel_rfl, fun a18 g W18 hsz18 hdf18 hk hg henv hrest hpsi => ?_⟩
        obtain ⟨e14, -, -⟩ := henv
        replace e0 := (hrest 0 rfl).trans e0
        replace e1 := (hrest 1 rfl).trans e1
        replace e2 := (hrest 2 rfl).trans e2
        replace e3 := (hrest 3 rfl).trans e3
        replace e13 := (hrest 13 rfl).trans e13
        replace D_v := D_v.ext hk
        replace D_p := D_p.ext hk
        replace D_v10_14 := D_v10_14.ext hk
        have e14 : sl a18 14 = (.int .i64 (((k : Nat) : Int) + (1 : Int))) := e14
        replace kw := kw.trans (.of_ext hk)
        clear hrest hk hg hpsi
        exact tail_nil ⟨hlt, hsz18, hdf18, kw, e0, e1, e2, e3, e13, (e14.trans (congrArg (Value.int .i64) (by simp))), D_v, D_p⟩
      · -- E: (nested && (((xs[k]'hlt).k : Int) != (4 : Int))) && (((xs[k]'hlt).k : Int) != (5
        refine wp_skip (hK15 _ _ ?_)
        refine wp_seq_k fun K19 hK19 => ?_
        refine wp_seq_k fun K20 hK20 => ?_
        refine wp_reg All mixed hsz17 hdf17 st_tr trivial ?_
        refine Chain.op (φ := Is v10_14) (st_is _) (sp_move (Has.base rfl e10)) ?_
        refine Chain.op (φ := Is p) (st_is _) (sp_move (Has.base rfl e2)) ?_
        refine Chain.op (φ := Is (.bool (false))) (st_is _) (sp_refEq Try.underlying98 sz33 ((Has.loc rfl).refd D_v10_14 sub_all) ((Has.loc rfl).refd D_p sub_all) (sa_cln hS) (sa_cln hS) (fun W X Y cs h1 h2 => by have := rdV_det _ _ cs h1 h2; have := congrArg V.cnt this; omega) (by rw [V.d_eq, V.d_eq]; rfl)) ?_
        refine Chain.done ⟨by kernel_rfl, fun a21 g W21 hsz21 hdf21 hk hg henv hrest hpsi => ?_⟩
        obtain ⟨e37, -, -, -⟩ := henv
        replace e0 := (hrest 0 rfl).trans e0
        replace e1 := (hrest 1 rfl).trans e1
        replace e2 := (hrest 2 rfl).trans e2
        replace e3 := (hrest 3 rfl).trans e3
        replace e13 := (hrest 13 rfl).trans e13
        replace e14 := (hrest 14 rfl).trans e14
        replace e10 := (hrest 10 rfl).trans e10
        replace D_v := D_v.ext hk
        replace D_p := D_p.ext hk
        replace D_v10_14 := D_v10_14.ext hk
        have e37 : sl a21 37 = (.bool (false)) := e37
        replace kw := kw.trans (.of_ext hk)
        clear hrest hk hg hpsi
        refine tail_nil (hK20 _ _ ?_)
        refine wp_cond_false e37 ?_
        refine wp_skip (hK19 _ _ ?_)
        refine wp_seq_k fun K22 hK22 => ?_
        refine wp_reg All mixed hsz21 hdf21 st_tr trivial ?_
        refine Chain.op (φ := Is p) (st_is _) (sp_move (Has.base rfl e2)) ?_
        refine Chain.op (φ := Is p) (st_is _) (sp_assign (Has.loc rfl)) ?_
        refine Chain.done ⟨by kernel_rfl, fun a23 g W23 hsz23 hdf23 hk hg henv hrest hpsi => ?_⟩
        obtain ⟨e11, -, -⟩ := henv
        replace e0 := (hrest 0 rfl).trans e0
        replace e1 := (hrest 1 rfl).trans e1
        replace e2 := (hrest 2 rfl).trans e2
        replace e3 := (hrest 3 rfl).trans e3
        replace e13 := (hrest 13 rfl).trans e13
        replace e14 := (hrest 14 rfl).trans e14
        replace e10 := (hrest 10 rfl).trans e10
        replace D_v := D_v.ext hk
        replace D_p := D_p.ext hk
        replace D_v10_14 := D_v10_14.ext hk
        have e11 : sl a23 11 = p := e11
        replace kw := kw.trans (.of_ext hk)
        clear hrest hk hg hpsi
        refine tail_nil (hK22 _ _ ?_)
        refine wp_seq_k fun K24 hK24 => ?_
        refine wp_seq_k fun K25 hK25 => ?_
        refine wp_reg All mixed hsz23 hdf23 st_tr trivial ?_
        refine Chain.op (φ := Is (.int .i64 (level))) (st_is _) (sp_move (Has.base rfl e1)) ?_
        refine Chain.op (φ := Is (.int .i64 (level))) (st_is _) (sp_move (Has.base rfl e1)) ?_
        refine Chain.op (φ := Is (.int .i64 ((level : Int) - (1 : Int)))) (st_is _) (sp_sub (Has.loc rfl) Has.cst (i64_in (by omega))) ?_
        refine Chain.op (φ := Is (.int .i64 (IntKind.i64.wrap (BitVec.ofInt 64 (level) &&& BitVec.ofInt 64 ((level : Int) - (1 : Int))).toNat))) (st_is _) (sp_band (Has.loc rfl) (Has.loc rfl)) ?_
        refine Chain.op (φ := Is (.bool ((IntKind.i64.wrap (BitVec.ofInt 64 (level) &&& BitVec.ofInt 64 ((level : Int) - (1 : Int))).toNat : Int) == (0 : Int)))) (st_is _) (sp_eql (Has.loc rfl) Has.cst) ?_
        refine Chain.done ⟨by kernel_rfl, fun a26 g W26 hsz26 hdf26 hk hg henv hrest hpsi => ?_⟩
        obtain ⟨e43, -, -, -, -, -⟩ := henv
        replace e0 := (hrest 0 rfl).trans e0
        replace e1 := (hrest 1 rfl).trans e1
        replace e2 := (hrest 2 rfl).trans e2
        replace e3 := (hrest 3 rfl).trans e3
        replace e13 := (hrest 13 rfl).trans e13
        replace e14 := (hrest 14 rfl).trans e14
        replace e10 := (hrest 10 rfl).trans e10
        replace e11 := (hrest 11 rfl).trans e11
        replace D_v := D_v.ext hk
        replace D_p := D_p.ext hk
        replace D_v10_14 := D_v10_14.ext hk
        have e43 : sl a26 43 = (.bool ((IntKind.i64.wrap (BitVec.ofInt 64 (level) &&& BitVec.ofInt 64 ((level : Int) - (1 : Int))).toNat : Int) == (0 : Int))) := e43
        replace kw := kw.trans (.of_ext hk)
        clear hrest hk hg hpsi
        refine tail_nil (hK25 _ _ ?_)
        refine wp_cond_split e43 (fun hc => ?_) (fun hc => ?_)
        · -- T: (IntKind.i64.wrap (BitVec.ofInt 64 (level) &&& BitVec.ofInt 64 ((level : Int) - 
          refine wp_reg All mixed hsz26 hdf26 st_tr trivial ?_
          refine Chain.op (φ := Is v10_14) (st_is _) (sp_move (Has.base rfl e10)) ?_
          refine Chain.op (φ := Is v10_14) (st_is _) (sp_assign (Has.loc rfl)) ?_
          refine Chain.done ⟨by kernel_rfl, fun a27 g W27 hsz27 hdf27 hk hg henv hrest hpsi => ?_⟩
          obtain ⟨e11, -, -⟩ := henv
          replace e0 := (hrest 0 rfl).trans e0
          replace e1 := (hrest 1 rfl).trans e1
          replace e2 := (hrest 2 rfl).trans e2
          replace e3 := (hrest 3 rfl).trans e3
          replace e13 := (hrest 13 rfl).trans e13
          replace e14 := (hrest 14 rfl).trans e14
          replace e10 := (hrest 10 rfl).trans e10
          replace D_v := D_v.ext hk
          replace D_p := D_p.ext hk
          replace D_v10_14 := D_v10_14.ext hk
          have e11 : sl a27 11 = v10_14 := e11
          replace kw := kw.trans (.of_ext hk)
          clear hrest hk hg hpsi
          refine tail_nil (hK24 _ _ ?_)
          refine wp_seq_k fun K28 hK28 => ?_
          refine wp_reg All mixed hsz27 hdf27 st_tr trivial ?_
          refine Chain.op (φ := Is v10_14) (st_is _) (sp_move (Has.base rfl e10)) ?_
          refine Chain.op (φ := IsR (SA w S []) (V.d (xs[k]'hlt))) (st_r sub_all) (sp_nilR ((Has.loc rfl).refd D_v10_14 sub_all)) ?_
          refine Chain.op (φ := IsR (SA w S []) (valsD ((xs[k]'hlt).xs))) (st_r sub_all) (sp_fieldV (Has.loc rfl) Try.underlying33 rfl sz31 rfl rfl) ?_
          refine Chain.op (φ := IsD (SA w S []) (valsD ((xs[k]'hlt).xs))) (st_d sub_all) (sp_loadR (Has.loc rfl) agg31 sz31 rfl) ?_
          refine Chain.op (φ := Is (.int .i64 (level))) (st_is _) (sp_move (Has.base rfl e1)) ?_
          refine Chain.op (φ := Is (.int .i64 ((level : Int) + (1 : Int)))) (st_is _) (sp_add (Has.loc rfl) Has.cst (i64_in (by omega))) ?_
          refine Chain.op (φ := Is v10_14) (st_is _) (sp_move (Has.base rfl e11)) ?_
          refine Chain.op (φ := Is (.bool (nested))) (st_is _) (sp_move (Has.base rfl e3)) ?_
          refine Chain.op (φ := Is (.bool (false))) (st_is _) (sp_call4 (φ1 := IsD (SA w S []) (valsD ((xs[k]'hlt).xs))) (φ2 := Is (.int .i64 ((level : Int) + (1 : Int)))) (φ3 := IsR (SA w S []) (V.d (xs[k]'hlt))) (φ4 := Is (.bool (nested))) ent51 (Has.loc rfl) (Has.loc rfl) ((Has.loc rfl).refd D_v10_14 sub_all) (Has.loc rfl) (fun g u1 u2 u3 u4 W hk hgk h1 h2 h3 h4 => by have h2 : u2 = _ := h2; subst u2; have h4 : u4 = _ := h4; subst u4; exact ih ((xs[k]'hlt).xs) (by omega) ((level : Int) + (1 : Int)) (by omega) (by omega) (nested) _ W _ _ (fun b o h => sa_cln hS b o h.1) h1 (Or.inr ⟨_, h3, by omega⟩))) ?_
          refine Chain.done ⟨by kernel_rfl, fun a29 g W29 hsz29 hdf29 hk hg henv hrest hpsi => ?_⟩
          obtain ⟨e53, -, -, -, -, -, -, -, -, -⟩ := henv
          replace e0 := (hrest 0 rfl).trans e0
          replace e1 := (hrest 1 rfl).trans e1
          replace e2 := (hrest 2 rfl).trans e2
          replace e3 := (hrest 3 rfl).trans e3
          replace e13 := (hrest 13 rfl).trans e13
          replace e14 := (hrest 14 rfl).trans e14
          replace D_v := D_v.ext hk
          replace D_p := D_p.ext hk
          replace D_v10_14 := D_v10_14.ext hk
          have e53 : sl a29 53 = (.bool (false)) := e53
          replace kw := kw.trans (.of_ext hk)
          clear hrest hk hg hpsi
          refine tail_nil (hK28 _ _ ?_)
          refine wp_cond_false e53 ?_
          refine wp_skip (hK10 _ _ ?_)
          refine wp_reg All mixed hsz29 hdf29 st_tr trivial ?_
          refine Chain.op (φ := Is (.int .i64 (((k : Nat) : Int) + (1 : Int)))) (st_is _) (sp_add (Has.base rfl e14) Has.cst (i64_in (by omega))) ?_
          refine Chain.op (φ := Is (.int .i64 (((k : Nat) : Int) + (1 : Int)))) (st_is _) (sp_move (Has.loc rfl)) ?_
          refine Chain.done ⟨by kernel_rfl, fun a30 g W30 hsz30 hdf30 hk hg henv hrest hpsi => ?_⟩
          obtain ⟨e14, -, -⟩ := henv
          replace e0 := (hrest 0 rfl).trans e0
          replace e1 := (hrest 1 rfl).trans e1
          replace e2 := (hrest 2 rfl).trans e2
          replace e3 := (hrest 3 rfl).trans e3
          replace e13 := (hrest 13 rfl).trans e13
          replace D_v := D_v.ext hk
          replace D_p := D_p.ext hk
          have e14 : sl a30 14 = (.int .i64 (((k : Nat) : Int) + (1 : Int))) := e14
          replace kw := kw.trans (.of_ext hk)
          clear hrest hk hg hpsi
          exact tail_nil ⟨hlt, hsz30, hdf30, kw, e0, e1, e2, e3, e13, (e14.trans (congrArg (Value.int .i64) (by simp))), D_v, D_p⟩
        · -- E: (IntKind.i64.wrap (BitVec.ofInt 64 (level) &&& BitVec.ofInt 64 ((level : Int) - 
          refine wp_skip (hK24 _ _ ?_)
          refine wp_seq_k fun K31 hK31 => ?_
          refine wp_reg All mixed hsz26 hdf26 st_tr trivial ?_
          refine Chain.op (φ := Is v10_14) (st_is _) (sp_move (Has.base rfl e10)) ?_
          refine Chain.op (φ := IsR (SA w S []) (V.d (xs[k]'hlt))) (st_r sub_all) (sp_nilR ((Has.loc rfl).refd D_v10_14 sub_all)) ?_
          refine Chain.op (φ := IsR (SA w S []) (valsD ((xs[k]'hlt).xs))) (st_r sub_all) (sp_fieldV (Has.loc rfl) Try.underlying33 rfl sz31 rfl rfl) ?_
          refine Chain.op (φ := IsD (SA w S []) (valsD ((xs[k]'hlt).xs))) (st_d sub_all) (sp_loadR (Has.loc rfl) agg31 sz31 rfl) ?_
          refine Chain.op (φ := Is (.int .i64 (level))) (st_is _) (sp_move (Has.base rfl e1)) ?_
          refine Chain.op (φ := Is (.int .i64 ((level : Int) + (1 : Int)))) (st_is _) (sp_add (Has.loc rfl) Has.cst (i64_in (by omega))) ?_
          refine Chain.op (φ := Is p) (st_is _) (sp_move (Has.base rfl e11)) ?_
          refine Chain.op (φ := Is (.bool (nested))) (st_is _) (sp_move (Has.base rfl e3)) ?_
          refine Chain.op (φ := Is (.bool (false))) (st_is _) (sp_call4 (φ1 := IsD (SA w S []) (valsD ((xs[k]'hlt).xs))) (φ2 := Is (.int .i64 ((level : Int) + (1 : Int)))) (φ3 := IsR (SA w S []) (V.d (y))) (φ4 := Is (.bool (nested))) ent51 (Has.loc rfl) (Has.loc rfl) ((Has.loc rfl).refd D_p sub_all) (Has.loc rfl) (fun g u1 u2 u3 u4 W hk hgk h1 h2 h3 h4 => by have h2 : u2 = _ := h2; subst u2; have h4 : u4 = _ := h4; subst u4; exact ih ((xs[k]'hlt).xs) (by omega) ((level : Int) + (1 : Int)) (by omega) (by omega) (nested) _ W _ _ (fun b o h => sa_cln hS b o h.1) h1 (Or.inr ⟨_, h3, by omega⟩))) ?_
          refine Chain.done ⟨by kernel_rfl, fun a32 g W32 hsz32 hdf32 hk hg henv hrest hpsi => ?_⟩
          obtain ⟨e53, -, -, -, -, -, -, -, -, -⟩ := henv
          replace e0 := (hrest 0 rfl).trans e0
          replace e1 := (hrest 1 rfl).trans e1
          replace e2 := (hrest 2 rfl).trans e2
          replace e3 := (hrest 3 rfl).trans e3
          replace e13 := (hrest 13 rfl).trans e13
          replace e14 := (hrest 14 rfl).trans e14
          replace D_v := D_v.ext hk
          replace D_p := D_p.ext hk
          replace D_v10_14 := D_v10_14.ext hk
          have e53 : sl a32 53 = (.bool (false)) := e53
          replace kw := kw.trans (.of_ext hk)
          clear hrest hk hg hpsi
          refine tail_nil (hK31 _ _ ?_)
          refine wp_cond_false e53 ?_
          refine wp_skip (hK10 _ _ ?_)
          refine wp_reg All mixed hsz32 hdf32 st_tr trivial ?_
          refine Chain.op (φ := Is (.int .i64 (((k : Nat) : Int) + (1 : Int)))) (st_is _) (sp_add (Has.base rfl e14) Has.cst (i64_in (by omega))) ?_
          refine Chain.op (φ := Is (.int .i64 (((k : Nat) : Int) + (1 : Int)))) (st_is _) (sp_move (Has.loc rfl)) ?_
          refine Chain.done ⟨by kernel_rfl, fun a33 g W33 hsz33 hdf33 hk hg henv hrest hpsi => ?_⟩
          obtain ⟨e14, -, -⟩ := henv
          replace e0 := (hrest 0 rfl).trans e0
          replace e1 := (hrest 1 rfl).trans e1
          replace e2 := (hrest 2 rfl).trans e2
          replace e3 := (hrest 3 rfl).trans e3
          replace e13 := (hrest 13 rfl).trans e13
          replace D_v := D_v.ext hk
          replace D_p := D_p.ext hk
          have e14 : sl a33 14 = (.int .i64 (((k : Nat) : Int) + (1 : Int))) := e14
          replace kw := kw.trans (.of_ext hk)
          clear hrest hk hg hpsi
          exact tail_nil ⟨hlt, hsz33, hdf33, kw, e0, e1, e2, e3, e13, (e14.trans (congrArg (Value.int .i64) (by simp))), D_v, D_p⟩
    · -- E: decide (((k : Nat) : Int) < (xs.length : Int))
      have hge0 : ¬ k < xs.length := by simpa using hc
      have hge : k = xs.length := by omega
      refine wp_exit (hK3 _ _ ?_)
      refine wp_seq_k fun K34 hK34 => ?_
      refine wp_reg All mixed hsz8 hdf8 st_tr trivial ?_
      refine Chain.op (φ := Is (.bool (false))) (st_is _) (sp_assign Has.cst) ?_
      refine Chain.done ⟨by kernel_rfl, fun a35 g W35 hsz35 hdf35 hk hg henv hrest hpsi => ?_⟩
      obtain ⟨e8, -⟩ := henv
      replace D_v := D_v.ext hk
      replace D_p := D_p.ext hk
      have e8 : sl a35 8 = (.bool (false)) := e8
      replace kw := kw.trans (.of_ext hk)
      clear hrest hk hg hpsi
      refine tail_nil (hK34 _ _ ?_)
      refine wp_ret ?_
      refine (show bodyPost Try.prog Try.f51 _ .ret _ _ from ret1 rfl hdf35 e8 ⟨_, rfl, kw, ?_⟩)
      exact rfl

end Go.Proofs.Ytipdogbeoflkoaa
