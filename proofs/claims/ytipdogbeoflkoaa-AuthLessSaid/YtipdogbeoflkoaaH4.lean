import Derived.Test.YtipdogbeoflkoaaH3
namespace Go.Proofs.Ytipdogbeoflkoaa
open Go.Eng
set_option maxRecDepth 100000 in
theorem num1_ok (x : V) (lo hi : Int) (w : World) (S : BSet) (v : Value) (b1 b2 : Nat) (hv : Rd w S x.d v) (own_b1 : Own w b1 [.int .i64 lo] 2) (own_b2 : Own w b2 [.int .i64 hi] 2) : Calls Try.prog 57 #[v, .pointer (some ⟨b1, 0, none⟩), .pointer (some ⟨b2, 0, none⟩)] w (Ret w fun r _ => r = .tuple #[.int .i64 (numV lo hi x), .int .i64 (numE lo hi x)]) := by
  obtain ⟨cn0a, cn0c, ci0a, ci0c, ev, ht0, D_cn0, D_ci0⟩ := rdV_out (rd_arg hv)
  subst ev
  refine enter Try.func57 rfl Try.ntmps57 (Nat.le_of_ble_eq_true rfl) fun a0 hsz0 hdf0 harg => ?_
  have e0 : sl a0 0 = (.agg #[(.int .u8 (x.k)), (.int .i64 (x.n)), (.string (x.t)), (.slice cn0a (x.ns.length) cn0c), (.slice ci0a (x.xs.length) ci0c)]) := harg 0 (Nat.le_of_ble_eq_true rfl)
  have e1 : sl a0 1 = (.pointer (some ⟨b1, 0, none⟩)) := harg 1 (Nat.le_of_ble_eq_true rfl)
  have e2 : sl a0 2 = (.pointer (some ⟨b2, 0, none⟩)) := harg 2 (Nat.le_of_ble_eq_true rfl)
  have kw := Keeps.refl All w
  clear harg
  refine wp_seq_k fun K1 hK1 => ?_
  refine wp_reg All mixed hsz0 hdf0 st_tr trivial ?_
  refine Chain.boxOp (v := (.agg #[(.int .u8 (x.k)), (.int .i64 (x.n)), (.string (x.t)), (.slice cn0a (x.ns.length) cn0c), (.slice ci0a (x.xs.length) ci0c)])) (Has.base rfl e0) ?_
  refine Chain.op (φ := Is (.int .i64 (0))) (st_is _) (sp_assign Has.cst) ?_
  refine Chain.op (φ := Is (.int .i64 (0))) (st_is _) (sp_assign Has.cst) ?_
  refine Chain.done ⟨by kernel_rfl, fun a2 g W2 hsz2 hdf2 hk hg henv hrest hpsi => ?_⟩
  obtain ⟨-, -, ⟨b3_2, e3, hb3, own_b3_2⟩, -⟩ := henv
  have lo_b3_2 : w.heap.size ≤ b3_2 := Nat.le_trans kw.size (hg.lo _ _ hb3)
  have ne_b1_b3_2 : b1 ≠ b3_2 := Nat.ne_of_lt (Nat.lt_of_lt_of_le own_b1.lt (hg.lo _ _ hb3))
  have ne_b2_b3_2 : b2 ≠ b3_2 := Nat.ne_of_lt (Nat.lt_of_lt_of_le own_b2.lt (hg.lo _ _ hb3))
  have own_b3_2 : Own W2 b3_2 [(.int .u8 (x.k)), (.int .i64 (x.n)), (.string (x.t)), (.slice cn0a (x.ns.length) cn0c), (.slice ci0a (x.xs.length) ci0c)] 33 := own_b3_2
  replace e1 := (hrest 1 rfl).trans e1
  replace e2 := (hrest 2 rfl).trans e2
  replace D_cn0 := sa_more D_cn0 hk [b3_2] (in_cons (hg.lo _ _ hb3) in_nil)
  replace D_ci0 := sa_more D_ci0 hk [b3_2] (in_cons (hg.lo _ _ hb3) in_nil)
  replace own_b1 := own_b1.ext hk
  replace own_b2 := own_b2.ext hk
  replace kw := kw.trans (.of_ext hk)
  clear hrest hk hg hpsi hb3
  refine tail_nil (hK1 _ _ ?_)
  refine wp_seq_k fun K3 hK3 => ?_
  refine wp_seq_k fun K4 hK4 => ?_
  refine wp_reg All mixed hsz2 hdf2 st_tr trivial ?_
  refine Chain.op (φ := Is (.pointer (some ⟨b3_2, 0, none⟩))) (st_is _) (sp_fieldO (Has.base rfl e3) Try.underlying33 rfl sz5 rfl) ?_
  refine Chain.op (φ := Is (.int .u8 (x.k))) (st_is _) (sp_loadO (v := (.int .u8 (x.k))) (Has.loc rfl) own_b3_2 trivial agg5 sz5 (Nat.le_of_ble_eq_true rfl) (fun h => by first | rfl | cases h) rfl) ?_
  refine Chain.op (φ := Is (.bool ((x.k : Int) != (2 : Int)))) (st_is _) (sp_neq (Has.loc rfl) Has.cst) ?_
  refine Chain.done ⟨by kernel_rfl, fun a5 g W5 hsz5 hdf5 hk hg henv hrest hpsi => ?_⟩
  obtain ⟨e8, -, -, -⟩ := henv
  replace e1 := (hrest 1 rfl).trans e1
  replace e2 := (hrest 2 rfl).trans e2
  replace e3 := (hrest 3 rfl).trans e3
  replace D_cn0 := D_cn0.ext hk
  replace D_ci0 := D_ci0.ext hk
  have e8 : sl a5 8 = (.bool ((x.k : Int) != (2 : Int))) := e8
  replace own_b1 := own_b1.ext hk
  replace own_b2 := own_b2.ext hk
  replace own_b3_2 := own_b3_2.ext hk
  replace kw := kw.trans (.of_ext hk)
  clear hrest hk hg hpsi
  refine tail_nil (hK4 _ _ ?_)
  refine wp_cond_split e8 (fun hc => ?_) (fun hc => ?_)
  · -- T: (x.k : Int) != (2 : Int)
    have hk : x.k ≠ 2 := by simp at hc; omega
    have hf : numE lo hi x = 10 := by rw [numE, if_pos hk]
    have hv2 : numV lo hi x = 0 := by rw [numV, hf]; rfl
    refine wp_seq_k fun K6 hK6 => ?_
    refine wp_reg All mixed hsz5 hdf5 st_tr trivial ?_
    refine Chain.op (φ := Is (.int .i64 (0))) (st_is _) (sp_assign Has.cst) ?_
    refine Chain.op (φ := Is (.int .i64 (10))) (st_is _) (sp_assign Has.cst) ?_
    refine Chain.done ⟨by kernel_rfl, fun a7 g W7 hsz7 hdf7 hk hg henv hrest hpsi => ?_⟩
    obtain ⟨e5, e4, -⟩ := henv
    replace D_cn0 := D_cn0.ext hk
    replace D_ci0 := D_ci0.ext hk
    have e4 : sl a7 4 = (.int .i64 (0)) := e4
    have e5 : sl a7 5 = (.int .i64 (10)) := e5
    replace own_b1 := own_b1.ext hk
    replace own_b2 := own_b2.ext hk
    replace own_b3_2 := own_b3_2.ext hk
    replace kw := kw.trans (.of_ext hk)
    clear hrest hk hg hpsi
    refine tail_nil (hK6 _ _ ?_)
    refine wp_ret ?_
    refine (show bodyPost Try.prog Try.f57 _ .ret _ _ from ret2 rfl hdf7 e4 e5 ⟨_, rfl, kw, ?_⟩)
    rw [hf, hv2]
  · -- E: (x.k : Int) != (2 : Int)
    have hk : ¬ x.k ≠ 2 := by simp at hc; omega
    refine wp_skip (hK3 _ _ ?_)
    refine wp_seq_k fun K8 hK8 => ?_
    refine wp_seq_k fun K9 hK9 => ?_
    refine wp_reg All mixed hsz5 hdf5 st_tr trivial ?_
    refine Chain.op (φ := Is (.pointer (some ⟨b3_2, 1, none⟩))) (st_is _) (sp_fieldO (Has.base rfl e3) Try.underlying33 rfl sz2 rfl) ?_
    refine Chain.op (φ := Is (.int .i64 (x.n))) (st_is _) (sp_loadO (v := (.int .i64 (x.n))) (Has.loc rfl) own_b3_2 trivial agg2 sz2 (Nat.le_of_ble_eq_true rfl) (fun h => by first | rfl | cases h) rfl) ?_
    refine Chain.op (φ := Is (.int .i64 (lo))) (st_is _) (sp_loadO (v := (.int .i64 (lo))) (Has.base rfl e1) own_b1 trivial agg2 sz2 (Nat.le_of_ble_eq_true rfl) (fun h => by first | rfl | cases h) rfl) ?_
    refine Chain.op (φ := Is (.bool (decide ((x.n : Int) < (lo : Int))))) (st_is _) (sp_lss (Has.loc rfl) (Has.loc rfl)) ?_
    refine Chain.op (φ := Is (.bool (decide ((x.n : Int) < (lo : Int))))) (st_is _) (sp_move (Has.loc rfl)) ?_
    refine Chain.opE (t := 13) (x := decide ((x.n : Int) < (lo : Int))) (φ := Is (.pointer (some ⟨b3_2, 1, none⟩))) rfl (Has.loc rfl) (st_is _) (fun hg => sp_fieldO (Has.base rfl e3) Try.underlying33 rfl sz2 rfl) ?_
    refine Chain.opE (t := 13) (x := decide ((x.n : Int) < (lo : Int))) (φ := Is (.int .i64 (x.n))) rfl (Has.loc rfl) (st_is _) (fun hg => sp_loadO (v := (.int .i64 (x.n))) ((Has.loc rfl).undE hg) own_b3_2 trivial agg2 sz2 (Nat.le_of_ble_eq_true rfl) (fun h => by first | rfl | cases h) rfl) ?_
    refine Chain.opE (t := 13) (x := decide ((x.n : Int) < (lo : Int))) (φ := Is (.int .i64 (hi))) rfl (Has.loc rfl) (st_is _) (fun hg => sp_loadO (v := (.int .i64 (hi))) (Has.base rfl e2) own_b2 trivial agg2 sz2 (Nat.le_of_ble_eq_true rfl) (fun h => by first | rfl | cases h) rfl) ?_
    refine Chain.opE (t := 13) (x := decide ((x.n : Int) < (lo : Int))) (φ := Is (.bool (decide ((hi : Int) < (x.n : Int))))) rfl (Has.loc rfl) (st_is _) (fun hg => sp_gtr ((Has.loc rfl).undE hg) ((Has.loc rfl).undE hg)) ?_
    refine Chain.op (φ := Is (.bool ((decide ((x.n : Int) < (lo : Int))) || (decide ((hi : Int) < (x.n : Int)))))) (st_is _) (sp_or (Has.loc rfl) ((Has.loc rfl).weak fun hq => hq)) ?_
    refine Chain.done ⟨by kernel_rfl, fun a10 g W10 hsz10 hdf10 hk hg henv hrest hpsi => ?_⟩
    obtain ⟨e18, -, -, -, -, -, -, -, -, -, -⟩ := henv
    replace e3 := (hrest 3 rfl).trans e3
    replace D_cn0 := D_cn0.ext hk
    replace D_ci0 := D_ci0.ext hk
    have e18 : sl a10 18 = (.bool ((decide ((x.n : Int) < (lo : Int))) || (decide ((hi : Int) < (x.n : Int))))) := e18
    replace own_b1 := own_b1.ext hk
    replace own_b2 := own_b2.ext hk
    replace own_b3_2 := own_b3_2.ext hk
    replace kw := kw.trans (.of_ext hk)
    clear hrest hk hg hpsi
    refine tail_nil (hK9 _ _ ?_)
    refine wp_cond_split e18 (fun hc => ?_) (fun hc => ?_)
    · -- T: (decide ((x.n : Int) < (lo : Int))) || (decide ((hi : Int) < (x.n : Int)))
      have hl : x.n < lo ∨ hi < x.n := by simpa using hc
      have hf : numE lo hi x = 1 := by rw [numE, if_neg hk, if_pos hl]
      have hv2 : numV lo hi x = 0 := by rw [numV, hf]; rfl
      refine wp_seq_k fun K11 hK11 => ?_
      refine wp_reg All mixed hsz10 hdf10 st_tr trivial ?_
      refine Chain.op (φ := Is (.int .i64 (0))) (st_is _) (sp_assign Has.cst) ?_
      refine Chain.op (φ := Is (.int .i64 (1))) (st_is _) (sp_assign Has.cst) ?_
      refine Chain.done ⟨by kernel_rfl, fun a12 g W12 hsz12 hdf12 hk hg henv hrest hpsi => ?_⟩
      obtain ⟨e5, e4, -⟩ := henv
      replace D_cn0 := D_cn0.ext hk
      replace D_ci0 := D_ci0.ext hk
      have e4 : sl a12 4 = (.int .i64 (0)) := e4
      have e5 : sl a12 5 = (.int .i64 (1)) := e5
      replace own_b1 := own_b1.ext hk
      replace own_b2 := own_b2.ext hk
      replace own_b3_2 := own_b3_2.ext hk
      replace kw := kw.trans (.of_ext hk)
      clear hrest hk hg hpsi
      refine tail_nil (hK11 _ _ ?_)
      refine wp_ret ?_
      refine (show bodyPost Try.prog Try.f57 _ .ret _ _ from ret2 rfl hdf12 e4 e5 ⟨_, rfl, kw, ?_⟩)
      rw [hf, hv2]
    · -- E: (decide ((x.n : Int) < (lo : Int))) || (decide ((hi : Int) < (x.n : Int)))
      have hl : ¬ (x.n < lo ∨ hi < x.n) := by simp at hc; omega
      have hf : numE lo hi x = 0 := by rw [numE, if_neg hk, if_neg hl]
      have hv2 : numV lo hi x = x.n := by rw [numV, if_pos hf]
      refine wp_skip (hK8 _ _ ?_)
      refine wp_seq_k fun K13 hK13 => ?_
      refine wp_reg All mixed hsz10 hdf10 st_tr trivial ?_
      refine Chain.op (φ := Is (.pointer (some ⟨b3_2, 1, none⟩))) (st_is _) (sp_fieldO (Has.base rfl e3) Try.underlying33 rfl sz2 rfl) ?_
      refine Chain.op (φ := Is (.int .i64 (x.n))) (st_is _) (sp_loadO (v := (.int .i64 (x.n))) (Has.loc rfl) own_b3_2 trivial agg2 sz2 (Nat.le_of_ble_eq_true rfl) (fun h => by first | rfl | cases h) rfl) ?_
      refine Chain.op (φ := Is (.int .i64 (x.n))) (st_is _) (sp_assign (Has.loc rfl)) ?_
      refine Chain.op (φ := Is (.int .i64 (0))) (st_is _) (sp_assign Has.cst) ?_
      refine Chain.done ⟨by kernel_rfl, fun a14 g W14 hsz14 hdf14 hk hg henv hrest hpsi => ?_⟩
      obtain ⟨e5, e4, -, -, -⟩ := henv
      replace D_cn0 := D_cn0.ext hk
      replace D_ci0 := D_ci0.ext hk
      have e4 : sl a14 4 = (.int .i64 (x.n)) := e4
      have e5 : sl a14 5 = (.int .i64 (0)) := e5
      replace own_b1 := own_b1.ext hk
      replace own_b2 := own_b2.ext hk
      replace own_b3_2 := own_b3_2.ext hk
      replace kw := kw.trans (.of_ext hk)
      clear hrest hk hg hpsi
      refine tail_nil (hK13 _ _ ?_)
      refine wp_ret ?_
      refine (show bodyPost Try.prog Try.f57 _ .ret _ _ from ret2 rfl hdf14 e4 e5 ⟨_, rfl, kw, ?_⟩)
      rw [hf, hv2]

set_option maxRecDepth 100000 in
theorem takeS_ok (x : V) (A : As) (e : Int) (hA : AB 1000000 A) (hx : x.wt ≤ 1073741824) (hxt : x.t.size ≤ maxLen) (name : ByteArray) (fi : FuncId) (cb : Array Value) (ce : V → Int) (fv : V → List ByteArray) (w : World) (S : BSet) (cn ci : Value) (bo bm : Nat) (hS : ∀ b o, S b o → Cln o) (hM : ∀ b ∈ [bo, bm], ∀ o, ¬ S b o) (hne : bo ≠ bm) (hv : Rd w S (strsD x.ns) cn) (hu : Rd w S (valsD x.xs) ci) (own_bo : Own w bo [.int .u8 x.k, .int .i64 x.n, .string x.t, cn, ci, .map (some bm), .int .i64 (e)] 69) (own_bm : OwnM w bm A) (ef : Enters Try.prog fi) (hf : ∀ W, Keeps (fun k => k ∉ [bo, bm]) w W → ∀ (y : V) (v : Value), y.wt ≤ 1073741824 → Rd W (Fr w) y.d v → Calls Try.prog fi (#[v] ++ cb) W (Ret W fun r W2 => ∃ r1, r = .tuple #[r1, .int .i64 (ce y)] ∧ Rd W2 (Fr W) (strsD (fv y)) r1)) : Calls Try.prog 53 #[.pointer (some ⟨bo, 0, none⟩), .string name, .func (.func fi) #[] cb] w (RetL w [bo, bm] fun u W => Rd W (Fr w) (strsD (if tkB x e name ce then fv (getV x name) else [])) u ∧ Own W bo [.int .u8 x.k, .int .i64 x.n, .string x.t, cn, ci, .map (some bm), .int .i64 (tkE x e name ce)] 69 ∧ OwnM W bm (tkA x A e name ce)) := by
  have hwx := wt_eq x
  have hwl := wts_len x.xs
  have hwn := wtN_len x.ns
  obtain ⟨cna, cnc, ev, D_cn⟩ := rdS_out (rd_argM (M := [bo, bm]) hv hM)
  subst ev
  obtain ⟨cia, cic, ev, D_ci⟩ := rdVs_out (rd_argM (M := [bo, bm]) hu hM)
  subst ev
  refine enter Try.func53 rfl Try.ntmps53 (Nat.le_of_ble_eq_true rfl) fun a0 hsz0 hdf0 harg => ?_
  have e0 : sl a0 0 = (.pointer (some ⟨bo, 0, none⟩)) := harg 0 (Nat.le_of_ble_eq_true rfl)
  have e1 : sl a0 1 = (.string (name)) := harg 1 (Nat.le_of_ble_eq_true rfl)
  have e2 : sl a0 2 = (.func (.func fi) #[] cb) := harg 2 (Nat.le_of_ble_eq_true rfl)
  have kw := Keeps.refl (fun k => k ∉ [bo, bm]) w
  clear harg
  refine wp_seq_k fun K1 hK1 => ?_
  refine wp_reg All mixed hsz0 hdf0 st_tr trivial ?_
  refine Chain.op (φ := Is (.slice none 0 0)) (st_is _) (sp_assign Has.cst) ?_
  refine Chain.done ⟨by kernel_rfl, fun a2 g W2 hsz2 hdf2 hk hg henv hrest hpsi => ?_⟩
  obtain ⟨-, -⟩ := henv
  replace e0 := (hrest 0 rfl).trans e0
  replace e1 := (hrest 1 rfl).trans e1
  replace e2 := (hrest 2 rfl).trans e2
  replace D_cn := D_cn.ext hk
  replace D_ci := D_ci.ext hk
  replace own_bo := own_bo.ext hk
  replace own_bm := own_bm.ext hk
  replace kw := kw.trans (.of_ext hk)
  clear hrest hk hg hpsi
  refine tail_nil (hK1 _ _ ?_)
  refine wp_seq_k fun K3 hK3 => ?_
  refine wp_reg All mixed hsz2 hdf2 st_tr trivial ?_
  refine Chain.op (φ := Is (.slice none 0 0)) (st_is _) (sp_assign Has.cst) ?_
  refine Chain.done ⟨by kernel_rfl, fun a4 g W4 hsz4 hdf4 hk hg henv hrest hpsi => ?_⟩
  obtain ⟨e7, -⟩ := henv
  replace e0 := (hrest 0 rfl).trans e0
  replace e1 := (hrest 1 rfl).trans e1
  replace e2 := (hrest 2 rfl).trans e2
  replace D_cn := D_cn.ext hk
  replace D_ci := D_ci.ext hk
  have e7 : sl a4 7 = (.slice none 0 0) := e7
  replace own_bo := own_bo.ext hk
  replace own_bm := own_bm.ext hk
  replace kw := kw.trans (.of_ext hk)
  clear hrest hk hg hpsi
  refine tail_nil (hK3 _ _ ?_)
  refine wp_seq_k fun K5 hK5 => ?_
  refine wp_seq_k fun K6 hK6 => ?_
  refine wp_reg All mixed hsz4 hdf4 st_tr trivial ?_
  refine Chain.op (φ := Is (.pointer (some ⟨bo, 0, none⟩))) (st_is _) (sp_move (Has.base rfl e0)) ?_
  refine Chain.op (φ := Is (.int .i64 (errK x.k e))) (st_is _) (sp_call1 (φ1 := Is (.pointer (some ⟨bo, 0, none⟩))) ent19 (Has.loc rfl) (fun g u1 W hk hgk h1 => by have h1 : u1 = _ := h1; subst u1; exact Err_ok _ _ _ _ _ _ _ W _ (own_bo.ext hk))) ?_
  refine Chain.op (φ := Is (.bool ((errK x.k e : Int) != (0 : Int)))) (st_is _) (sp_neq (Has.loc rfl) Has.cst) ?_
  refine Chain.done ⟨by kernel_rfl, fun a7 g W7 hsz7 hdf7 hk hg henv hrest hpsi => ?_⟩
  obtain ⟨e14, -, -, -⟩ := henv
  replace e0 := (hrest 0 rfl).trans e0
  replace e1 := (hrest 1 rfl).trans e1
  replace e2 := (hrest 2 rfl).trans e2
  replace e7 := (hrest 7 rfl).trans e7
  replace D_cn := D_cn.ext hk
  replace D_ci := D_ci.ext hk
  have e14 : sl a7 14 = (.bool ((errK x.k e : Int) != (0 : Int))) := e14
  replace own_bo := own_bo.ext hk
  replace own_bm := own_bm.ext hk
  replace kw := kw.trans (.of_ext hk)
  clear hrest hk hg hpsi
  refine tail_nil (hK6 _ _ ?_)
  refine wp_cond_split e14 (fun hc => ?_) (fun hc => ?_)
  · -- T: (errK x.k e : Int) != (0 : Int)
    have hE : errK x.k e ≠ 0 := by simpa using hc
    have h1 : tkE x e name ce = e := by rw [tkE, if_pos hE]
    have h2 : tkB x e name ce = false := by simp [tkB, hE]
    have h3 : tkA x A e name ce = A := by rw [tkA, h2]; rfl
    refine wp_seq_k fun K8 hK8 => ?_
    refine wp_reg All mixed hsz7 hdf7 st_tr trivial ?_
    refine Chain.op (φ := Is (.slice none 0 0)) (st_is _) (sp_move (Has.base rfl e7)) ?_
    refine Chain.op (φ := Is (.slice none 0 0)) (st_is _) (sp_assign (Has.loc rfl)) ?_
    refine Chain.done ⟨by kernel_rfl, fun a9 g W9 hsz9 hdf9 hk hg henv hrest hpsi => ?_⟩
    obtain ⟨e6, -, -⟩ := henv
    replace D_cn := D_cn.ext hk
    replace D_ci := D_ci.ext hk
    have e6 : sl a9 6 = (.slice none 0 0) := e6
    replace own_bo := own_bo.ext hk
    replace own_bm := own_bm.ext hk
    replace kw := kw.trans (.of_ext hk)
    clear hrest hk hg hpsi
    refine tail_nil (hK8 _ _ ?_)
    refine wp_ret ?_
    refine (show bodyPost Try.prog Try.f53 _ .ret _ _ from ret1 rfl hdf9 e6 ⟨_, rfl, kw, ?_⟩)
    rw [h1, h3, h2]
    exact ⟨rd_nil _, own_bo, own_bm⟩
  · -- E: (errK x.k e : Int) != (0 : Int)
    have hE : errK x.k e = 0 := by simpa using hc
    have he0 := (errK_zero hE).1
    refine wp_skip (hK5 _ _ ?_)
    refine wp_seq_k fun K10 hK10 => ?_
    refine wp_reg All mixed hsz7 hdf7 st_tr trivial ?_
    refine Chain.op (φ := Is (.pointer (some ⟨bo, 0, none⟩))) (st_is _) (sp_move (Has.base rfl e0)) ?_
    refine Chain.op (φ := Is (.pointer (some ⟨bo, 0, none⟩))) (st_is _) (sp_nilP (Has.loc rfl)) ?_
    refine Chain.op (φ := Is (.pointer (some ⟨bo, 0, none⟩))) (st_is _) (sp_fieldO (Has.loc rfl) Try.underlying69 rfl sz33 rfl) ?_
    refine Chain.op (φ := Is (.agg #[(.int .u8 (x.k)), (.int .i64 (x.n)), (.string (x.t)), (.slice cna (x.ns.length) cnc), (.slice cia (x.xs.length) cic)])) (st_is _) (sp_loadO (v := (.agg #[(.int .u8 (x.k)), (.int .i64 (x.n)), (.string (x.t)), (.slice cna (x.ns.length) cnc), (.slice cia (x.xs.length) cic)])) (Has.loc rfl) own_bo trivial agg33 sz33 (Nat.le_of_ble_eq_true rfl) (fun h => by first | rfl | cases h) rfl) ?_
    refine Chain.op (φ := Is (.string (name))) (st_is _) (sp_move (Has.base rfl e1)) ?_
    refine Chain.op (φ := IsT (IsD (Fr W7) (V.d (getV (x) name))) (Is (.bool (getB (x) name)))) (st_t (st_d sub_all) (st_is _)) (sp_call2 (φ1 := IsD (SA w S [bo, bm]) (V.d (x))) (φ2 := Is (.string (name))) ent67 ((Has.loc rfl).dat (rdV_in (x := x) hxt D_cn D_ci : Rd W7 (SA w S [bo, bm]) (V.d (x)) _) sub_all) (Has.loc rfl) (fun g u1 u2 W hk hgk h1 h2 => by have h2 : u2 = _ := h2; subst u2; exact (Get_ok (x) (name) (by omega) W _ _ (fun b o h => sa_cln hS b o h.1) h1).mono (fun _ _ ⟨v, h1, h2, r1, h3, h4⟩ => ⟨v, h1, h2, r1, _, h3, fresh_d hk hgk h4, rfl⟩))) ?_
    refine Chain.op (φ := IsT (IsD (Fr W7) (V.d (getV (x) name))) (Is (.bool (getB (x) name)))) (st_t (st_d sub_all) (st_is _)) (sp_move (Has.loc rfl)) ?_
    refine Chain.op (φ := IsD (Fr W7) (V.d (getV (x) name))) (st_d sub_all) (sp_ext2 (Has.loc rfl) rfl) ?_
    refine Chain.op (φ := Is (.bool (getB (x) name))) (st_is _) (sp_ext2' (Has.loc rfl) rfl) ?_
    refine Chain.alloc z33 ?_
    refine Chain.done ⟨by kernel_rfl, fun a11 g W11 hsz11 hdf11 hk hg henv hrest hpsi => ?_⟩
    obtain ⟨⟨b8_11, e8, hb8, own_b8_11⟩, e24, e23, -, -, -, -, -, -, -, -⟩ := henv
    have lo_b8_11 : w.heap.size ≤ b8_11 := Nat.le_trans kw.size (hg.lo _ _ hb8)
    have ne_bo_b8_11 : bo ≠ b8_11 := Nat.ne_of_lt (Nat.lt_of_lt_of_le own_bo.lt (hg.lo _ _ hb8))
    have ne_bm_b8_11 : bm ≠ b8_11 := Nat.ne_of_lt (Nat.lt_of_lt_of_le own_bm.lt (hg.lo _ _ hb8))
    have own_b8_11 : Own W11 b8_11 [(.int .u8 (0)), (.int .i64 (0)), (.string (⟨#[]⟩)), (.slice none 0 0), (.slice none 0 0)] 33 := own_b8_11
    replace e0 := (hrest 0 rfl).trans e0
    replace e1 := (hrest 1 rfl).trans e1
    replace e2 := (hrest 2 rfl).trans e2
    replace e7 := (hrest 7 rfl).trans e7
    replace D_cn := sa_more D_cn hk [b8_11] (in_cons (hg.lo _ _ hb8) in_nil)
    replace D_ci := sa_more D_ci hk [b8_11] (in_cons (hg.lo _ _ hb8) in_nil)
    obtain ⟨v23_11, ev⟩ : ∃ v, sl a11 23 = v := ⟨_, rfl⟩
    rw [ev] at e23
    have D_v23_11 : Rd W11 (SF w [b8_11, bo, bm]) (V.d (getV (x) name)) v23_11 := fr_end (M := [bo, bm]) e23 kw [b8_11] (in_cons ⟨_, hb8⟩ in_nil) (in_cons own_bo.lt (in_cons own_bm.lt in_nil))
    replace e23 := ev; clear ev
    obtain ⟨cn23_11a, cn23_11c, ci23_11a, ci23_11c, ev, ht_v23_11, D_cn23_11, D_ci23_11⟩ := rdV_out D_v23_11
    subst ev; clear D_v23_11
    have e24 : sl a11 24 = (.bool (getB (x) name)) := e24
    replace own_bo := own_bo.ext hk
    replace own_bm := own_bm.ext hk
    replace kw := kw.trans (.of_ext hk)
    clear hrest hk hg hpsi hb8
    refine tail_store (b := b8_11) (o := 0) (v := (.agg #[(.int .u8 ((getV (x) name).k)), (.int .i64 ((getV (x) name).n)), (.string ((getV (x) name).t)), (.slice cn23_11a (((getV (x) name).ns).length) cn23_11c), (.slice ci23_11a (((getV (x) name).xs).length) ci23_11c)])) e8 e23 sz33 rfl own_b8_11 (Nat.le_of_ble_eq_true rfl) (all_cons rfl (all_cons rfl (all_cons rfl (all_cons rfl (all_cons rfl all_nil))))) (fun W12 hs own_b8_11 => ?_)
    have own_b8_11 : Own W12 b8_11 [(.int .u8 ((getV (x) name).k)), (.int .i64 ((getV (x) name).n)), (.string ((getV (x) name).t)), (.slice cn23_11a (((getV (x) name).ns).length) cn23_11c), (.slice ci23_11a (((getV (x) name).xs).length) ci23_11c)] 33 := own_b8_11
    replace own_bo := own_store own_bo hs ne_bo_b8_11
    replace own_bm := ownM_store own_bm hs ne_bm_b8_11
    replace D_cn := sa_store D_cn hs (by simp)
    replace D_ci := sa_store D_ci hs (by simp)
    replace D_cn23_11 := sf_store D_cn23_11 hs (by simp)
    replace D_ci23_11 := sf_store D_ci23_11 hs (by simp)
    replace kw := keeps_store kw hs lo_b8_11
    clear hs
    refine tail_assign (v := (.bool (getB (x) name))) e24 (by rw [hsz11]; exact Nat.le_of_ble_eq_true rfl) (fun a13 hsz13 hdf13 e9 hr => ?_)
    replace hsz13 := hsz13.trans hsz11; replace hdf13 := hdf13.trans hdf11
    replace e0 := (hr 0 (by decide)).trans e0
    replace e1 := (hr 1 (by decide)).trans e1
    replace e2 := (hr 2 (by decide)).trans e2
    replace e7 := (hr 7 (by decide)).trans e7
    replace e8 := (hr 8 (by decide)).trans e8
    replace e23 := (hr 23 (by decide)).trans e23
    replace e24 := (hr 24 (by decide)).trans e24
    clear hr
    refine tail_nil (hK10 _ _ ?_)
    refine wp_seq_k fun K14 hK14 => ?_
    refine wp_seq_k fun K15 hK15 => ?_
    refine wp_reg All mixed hsz13 hdf13 st_tr trivial ?_
    refine Chain.op (φ := Is (.bool (getB (x) name))) (st_is _) (sp_move (Has.base rfl e9)) ?_
    refine Chain.op (φ := Is (.bool (!(getB (x) name)))) (st_is _) (sp_not (Has.loc rfl)) ?_
    refine Chain.done ⟨by kernel_rfl, fun a16 g W16 hsz16 hdf16 hk hg henv hrest hpsi => ?_⟩
    obtain ⟨e26, -, -⟩ := henv
    replace e0 := (hrest 0 rfl).trans e0
    replace e1 := (hrest 1 rfl).trans e1
    replace e2 := (hrest 2 rfl).trans e2
    replace e7 := (hrest 7 rfl).trans e7
    replace e8 := (hrest 8 rfl).trans e8
    replace D_cn := D_cn.ext hk
    replace D_ci := D_ci.ext hk
    replace D_cn23_11 := D_cn23_11.ext hk
    replace D_ci23_11 := D_ci23_11.ext hk
    have e26 : sl a16 26 = (.bool (!(getB (x) name))) := e26
    replace own_bo := own_bo.ext hk
    replace own_bm := own_bm.ext hk
    replace own_b8_11 := own_b8_11.ext hk
    replace kw := kw.trans (.of_ext hk)
    clear hrest hk hg hpsi
    refine tail_nil (hK15 _ _ ?_)
    refine wp_cond_split e26 (fun hc => ?_) (fun hc => ?_)
    · -- T: !(getB (x) name)
      have hg0 : getB x name = false := by simpa using hc
      have h1 : tkE x e name ce = failK x.k e 6 := by rw [tkE, if_neg (by simp [hE]), if_pos hg0, failK, if_pos hE]
      have h2 : tkB x e name ce = false := by simp [tkB, hg0]
      have h3 : tkA x A e name ce = A := by rw [tkA, h2]; rfl
      refine wp_seq_k fun K17 hK17 => ?_
      refine wp_reg (fun k => k ∉ [bo]) (Ψ := fun W => Own W bo [(.int .u8 (x.k)), (.int .i64 (x.n)), (.string (x.t)), (.slice cna (x.ns.length) cnc), (.slice cia (x.xs.length) cic), (.map (some bm)), (.int .i64 (e))] 69) mixed hsz16 hdf16 stE_own own_bo ?_
      refine Chain.op (φ := Is (.pointer (some ⟨bo, 0, none⟩))) (st_is _) (sp_move (Has.base rfl e0)) ?_
      refine Chain.callL2 (φ1 := Is (.pointer (some ⟨bo, 0, none⟩))) (φ2 := Is (.int .i64 (6))) (φ := Is (.tuple #[])) (Ψ' := fun W => Own W bo [(.int .u8 (x.k)), (.int .i64 (x.n)), (.string (x.t)), (.slice cna (x.ns.length) cnc), (.slice cia (x.xs.length) cic), (.map (some bm)), (.int .i64 (failK x.k e 6))] 69) ent17 (Has.loc rfl) Has.cst (st_is _) stE_own (fun g u1 u2 W hk hg h1 h2 hpsi => by have h1 : u1 = _ := h1; subst u1; have h2 : u2 = _ := h2; subst u2; exact (Fail_ok _ _ _ _ _ _ _ (6) W _ hpsi)) ?_
      refine Chain.done ⟨by kernel_rfl, fun a18 g W18 hsz18 hdf18 hk hg henv hrest hpsi => ?_⟩
      obtain ⟨-, -, -⟩ := henv
      replace e7 := (hrest 7 rfl).trans e7
      replace D_cn := sa_keepL D_cn hk (by simp)
      replace D_ci := sa_keepL D_ci hk (by simp)
      replace D_cn23_11 := sf_keepL D_cn23_11 hk (by simp)
      replace D_ci23_11 := sf_keepL D_ci23_11 hk (by simp)
      replace own_bm := ownM_keepL own_bm hk (by simp [hne.symm])
      replace own_b8_11 := own_keepL own_b8_11 hk (by simp [ne_bo_b8_11.symm])
      have own_bo := hpsi
      replace own_bo : Own W18 bo [(.int .u8 (x.k)), (.int .i64 (x.n)), (.string (x.t)), (.slice cna (x.ns.length) cnc), (.slice cia (x.xs.length) cic), (.map (some bm)), (.int .i64 (failK x.k e 6))] 69 := own_bo
      replace kw := keeps_L kw hk (in_cons (.inr (by simp)) in_nil)
      clear hrest hk hg hpsi
      refine tail_nil (hK17 _ _ ?_)
      refine wp_seq_k fun K19 hK19 => ?_
      refine wp_reg All mixed hsz18 hdf18 st_tr trivial ?_
      refine Chain.op (φ := Is (.slice none 0 0)) (st_is _) (sp_move (Has.base rfl e7)) ?_
      refine Chain.op (φ := Is (.slice none 0 0)) (st_is _) (sp_assign (Has.loc rfl)) ?_
      refine Chain.done ⟨by kernel_rfl, fun a20 g W20 hsz20 hdf20 hk hg henv hrest hpsi => ?_⟩
      obtain ⟨e6, -, -⟩ := henv
      replace D_cn := D_cn.ext hk
      replace D_ci := D_ci.ext hk
      have e6 : sl a20 6 = (.slice none 0 0) := e6
      replace own_bo := own_bo.ext hk
      replace own_bm := own_bm.ext hk
      replace own_b8_11 := own_b8_11.ext hk
      replace kw := kw.trans (.of_ext hk)
      clear hrest hk hg hpsi
      refine tail_nil (hK19 _ _ ?_)
      refine wp_ret ?_
      refine (show bodyPost Try.prog Try.f53 _ .ret _ _ from ret1 rfl hdf20 e6 ⟨_, rfl, kw, ?_⟩)
      rw [h1, h3, h2]
      exact ⟨rd_nil _, own_bo, own_bm⟩
    · -- E: !(getB (x) name)
      have hg1 : getB x name = true := by simpa using hc
      have hAn := hA name
      have hwg := Nat.le_trans (getV_wt x name) hx
      refine wp_skip (hK14 _ _ ?_)
      refine wp_seq_k fun K21 hK21 => ?_
      refine wp_reg All mixed hsz16 hdf16 st_tr trivial ?_
      refine Chain.op (φ := Is (.func (.func fi) #[] cb)) (st_is _) (sp_move (Has.base rfl e2)) ?_
      refine Chain.op (φ := Is (.agg #[(.int .u8 ((getV (x) name).k)), (.int .i64 ((getV (x) name).n)), (.string ((getV (x) name).t)), (.slice cn23_11a (((getV (x) name).ns).length) cn23_11c), (.slice ci23_11a (((getV (x) name).xs).length) ci23_11c)])) (st_is _) (sp_loadO (v := (.agg #[(.int .u8 ((getV (x) name).k)), (.int .i64 ((getV (x) name).n)), (.string ((getV (x) name).t)), (.slice cn23_11a (((getV (x) name).ns).length) cn23_11c), (.slice ci23_11a (((getV (x) name).xs).length) ci23_11c)])) (Has.base rfl e8) own_b8_11 trivial agg33 sz33 (Nat.le_of_ble_eq_true rfl) (fun h => by first | rfl | cases h) rfl) ?_
      refine Chain.op (φ := IsT (IsD (Fr W16) (strsD (fv (getV x name)))) (Is (.int .i64 (ce (getV x name))))) (st_t (st_d sub_all) (st_is _)) (sp_callF1 ef (Has.loc rfl) (Has.loc rfl) (fun g W hk hgk => (hf W (kw.trans (.of_ext hk)) _ _ hwg (sf_fr (Rd.ext (rdV_in (x := (getV (x) name)) ht_v23_11 D_cn23_11 D_ci23_11 : Rd W16 (SF w [b8_11, bo, bm]) (V.d ((getV (x) name))) _) hk))).mono (fun _ _ ⟨v, h1, h2, r1, h3, h4⟩ => ⟨v, h1, h2, r1, _, h3, fresh_d hk hgk h4, rfl⟩))) ?_
      refine Chain.op (φ := IsT (IsD (Fr W16) (strsD (fv (getV x name)))) (Is (.int .i64 (ce (getV x name))))) (st_t (st_d sub_all) (st_is _)) (sp_move (Has.loc rfl)) ?_
      refine Chain.op (φ := IsD (Fr W16) (strsD (fv (getV x name)))) (st_d sub_all) (sp_ext2 (Has.loc rfl) rfl) ?_
      refine Chain.op (φ := Is (.int .i64 (ce (getV x name)))) (st_is _) (sp_ext2' (Has.loc rfl) rfl) ?_
      refine Chain.op (φ := IsD (Fr W16) (strsD (fv (getV x name)))) (st_d sub_all) (sp_assign (Has.loc rfl)) ?_
      refine Chain.op (φ := Is (.int .i64 (ce (getV x name)))) (st_is _) (sp_assign (Has.loc rfl)) ?_
      refine Chain.done ⟨by kernel_rfl, fun a22 g W22 hsz22 hdf22 hk hg henv hrest hpsi => ?_⟩
      obtain ⟨e11, e10, -, -, -, -, -, -, -⟩ := henv
      replace e0 := (hrest 0 rfl).trans e0
      replace e1 := (hrest 1 rfl).trans e1
      replace e7 := (hrest 7 rfl).trans e7
      replace D_cn := D_cn.ext hk
      replace D_ci := D_ci.ext hk
      replace D_cn23_11 := D_cn23_11.ext hk
      replace D_ci23_11 := D_ci23_11.ext hk
      obtain ⟨v10_22, ev⟩ : ∃ v, sl a22 10 = v := ⟨_, rfl⟩
      rw [ev] at e10
      have D_v10_22 : Rd W22 (SF w [b8_11, bo, bm]) (strsD (fv (getV x name))) v10_22 := fr_end (M := [b8_11, bo, bm]) e10 kw [] in_nil (in_cons own_b8_11.lt (in_cons own_bo.lt (in_cons own_bm.lt in_nil)))
      replace e10 := ev; clear ev
      obtain ⟨v10_22a, v10_22c, ev, D2⟩ := rdS_out D_v10_22
      subst ev; replace D_v10_22 := D2; clear D2
      have e11 : sl a22 11 = (.int .i64 (ce (getV x name))) := e11
      replace own_bo := own_bo.ext hk
      replace own_bm := own_bm.ext hk
      replace own_b8_11 := own_b8_11.ext hk
      replace kw := kw.trans (.of_ext hk)
      clear hrest hk hg hpsi
      refine tail_nil (hK21 _ _ ?_)
      refine wp_seq_k fun K23 hK23 => ?_
      refine wp_seq_k fun K24 hK24 => ?_
      refine wp_reg All mixed hsz22 hdf22 st_tr trivial ?_
      refine Chain.op (φ := Is (.int .i64 (ce (getV x name)))) (st_is _) (sp_move (Has.base rfl e11)) ?_
      refine Chain.op (φ := Is (.bool ((ce (getV x name) : Int) != (0 : Int)))) (st_is _) (sp_neq (Has.loc rfl) Has.cst) ?_
      refine Chain.done ⟨by kernel_rfl, fun a25 g W25 hsz25 hdf25 hk hg henv hrest hpsi => ?_⟩
      obtain ⟨e37, -, -⟩ := henv
      replace e0 := (hrest 0 rfl).trans e0
      replace e1 := (hrest 1 rfl).trans e1
      replace e7 := (hrest 7 rfl).trans e7
      replace e10 := (hrest 10 rfl).trans e10
      replace e11 := (hrest 11 rfl).trans e11
      replace D_cn := D_cn.ext hk
      replace D_ci := D_ci.ext hk
      replace D_v10_22 := D_v10_22.ext hk
      have e37 : sl a25 37 = (.bool ((ce (getV x name) : Int) != (0 : Int))) := e37
      replace own_bo := own_bo.ext hk
      replace own_bm := own_bm.ext hk
      replace own_b8_11 := own_b8_11.ext hk
      replace kw := kw.trans (.of_ext hk)
      clear hrest hk hg hpsi
      refine tail_nil (hK24 _ _ ?_)
      refine wp_cond_split e37 (fun hc => ?_) (fun hc => ?_)
      · -- T: (ce (getV x name) : Int) != (0 : Int)
        have hce : ce (getV x name) ≠ 0 := by simpa using hc
        have h1 : tkE x e name ce = failK x.k e (ce (getV x name)) := by rw [tkE, if_neg (by simp [hE]), if_neg (by simp [hg1]), failK, if_pos hE]
        have h2 : tkB x e name ce = false := by simp [tkB, hce]
        have h3 : tkA x A e name ce = A := by rw [tkA, h2]; rfl
        refine wp_seq_k fun K26 hK26 => ?_
        refine wp_reg (fun k => k ∉ [bo]) (Ψ := fun W => Own W bo [(.int .u8 (x.k)), (.int .i64 (x.n)), (.string (x.t)), (.slice cna (x.ns.length) cnc), (.slice cia (x.xs.length) cic), (.map (some bm)), (.int .i64 (e))] 69) mixed hsz25 hdf25 stE_own own_bo ?_
        refine Chain.op (φ := Is (.pointer (some ⟨bo, 0, none⟩))) (st_is _) (sp_move (Has.base rfl e0)) ?_
        refine Chain.op (φ := Is (.int .i64 (ce (getV x name)))) (st_is _) (sp_move (Has.base rfl e11)) ?_
        refine Chain.callL2 (φ1 := Is (.pointer (some ⟨bo, 0, none⟩))) (φ2 := Is (.int .i64 (ce (getV x name)))) (φ := Is (.tuple #[])) (Ψ' := fun W => Own W bo [(.int .u8 (x.k)), (.int .i64 (x.n)), (.string (x.t)), (.slice cna (x.ns.length) cnc), (.slice cia (x.xs.length) cic), (.map (some bm)), (.int .i64 (failK x.k e (ce (getV x name))))] 69) ent17 (Has.loc rfl) (Has.loc rfl) (st_is _) stE_own (fun g u1 u2 W hk hg h1 h2 hpsi => by have h1 : u1 = _ := h1; subst u1; have h2 : u2 = _ := h2; subst u2; exact (Fail_ok _ _ _ _ _ _ _ (ce (getV x name)) W _ hpsi)) ?_
        refine Chain.done ⟨by kernel_rfl, fun a27 g W27 hsz27 hdf27 hk hg henv hrest hpsi => ?_⟩
        obtain ⟨-, -, -, -⟩ := henv
        replace e7 := (hrest 7 rfl).trans e7
        replace D_cn := sa_keepL D_cn hk (by simp)
        replace D_ci := sa_keepL D_ci hk (by simp)
        replace D_v10_22 := sf_keepL D_v10_22 hk (by simp)
        replace own_bm := ownM_keepL own_bm hk (by simp [hne.symm])
        replace own_b8_11 := own_keepL own_b8_11 hk (by simp [ne_bo_b8_11.symm])
        have own_bo := hpsi
        replace own_bo : Own W27 bo [(.int .u8 (x.k)), (.int .i64 (x.n)), (.string (x.t)), (.slice cna (x.ns.length) cnc), (.slice cia (x.xs.length) cic), (.map (some bm)), (.int .i64 (failK x.k e (ce (getV x name))))] 69 := own_bo
        replace kw := keeps_L kw hk (in_cons (.inr (by simp)) in_nil)
        clear hrest hk hg hpsi
        refine tail_nil (hK26 _ _ ?_)
        refine wp_seq_k fun K28 hK28 => ?_
        refine wp_reg All mixed hsz27 hdf27 st_tr trivial ?_
        refine Chain.op (φ := Is (.slice none 0 0)) (st_is _) (sp_move (Has.base rfl e7)) ?_
        refine Chain.op (φ := Is (.slice none 0 0)) (st_is _) (sp_assign (Has.loc rfl)) ?_
        refine Chain.done ⟨by kernel_rfl, fun a29 g W29 hsz29 hdf29 hk hg henv hrest hpsi => ?_⟩
        obtain ⟨e6, -, -⟩ := henv
        replace D_cn := D_cn.ext hk
        replace D_ci := D_ci.ext hk
        have e6 : sl a29 6 = (.slice none 0 0) := e6
        replace own_bo := own_bo.ext hk
        replace own_bm := own_bm.ext hk
        replace own_b8_11 := own_b8_11.ext hk
        replace kw := kw.trans (.of_ext hk)
        clear hrest hk hg hpsi
        refine tail_nil (hK28 _ _ ?_)
        refine wp_ret ?_
        refine (show bodyPost Try.prog Try.f53 _ .ret _ _ from ret1 rfl hdf29 e6 ⟨_, rfl, kw, ?_⟩)
        rw [h1, h3, h2]
        exact ⟨rd_nil _, own_bo, own_bm⟩
      · -- E: (ce (getV x name) : Int) != (0 : Int)
        have hce : ce (getV x name) = 0 := by simpa using hc
        have h1 : tkE x e name ce = e := by rw [tkE, if_neg (by simp [hE]), if_neg (by simp [hg1]), hce, he0]
        have h2 : tkB x e name ce = true := by simp [tkB, hE, hg1, hce]
        have h3 : tkA x A e name ce = mset A name (mget A name + 1) := by rw [tkA, h2]; rfl
        refine wp_skip (hK23 _ _ ?_)
        refine wp_seq_k fun K30 hK30 => ?_
        refine wp_reg All mixed hsz25 hdf25 st_tr trivial ?_
        refine Chain.op (φ := Is (.pointer (some ⟨bo, 0, none⟩))) (st_is _) (sp_move (Has.base rfl e0)) ?_
        refine Chain.op (φ := Is (.pointer (some ⟨bo, 0, none⟩))) (st_is _) (sp_nilP (Has.loc rfl)) ?_
        refine Chain.op (φ := Is (.pointer (some ⟨bo, 5, none⟩))) (st_is _) (sp_fieldO (Has.loc rfl) Try.underlying69 rfl sz67 rfl) ?_
        refine Chain.op (φ := Is (.map (some bm))) (st_is _) (sp_loadO (v := (.map (some bm))) (Has.loc rfl) own_bo trivial agg67 sz67 (Nat.le_of_ble_eq_true rfl) (fun h => by first | rfl | cases h) rfl) ?_
        refine Chain.op (φ := Is (.string (name))) (st_is _) (sp_move (Has.base rfl e1)) ?_
        refine Chain.op (φ := Is (.int .i64 (mget A name))) (st_is _) (sp_lookup Try.underlying67 Try.underlying9 z3 (Has.loc rfl) (Has.loc rfl) own_bm trivial) ?_
        refine Chain.op (φ := Is (.int .i64 ((mget A name : Int) + (1 : Int)))) (st_is _) (sp_add (Has.loc rfl) Has.cst (i64_in (by omega))) ?_
        refine Chain.done ⟨by kernel_rfl, fun a31 g W31 hsz31 hdf31 hk hg henv hrest hpsi => ?_⟩
        obtain ⟨e48, -, e46, e45, -, -, -, -⟩ := henv
        replace e10 := (hrest 10 rfl).trans e10
        replace D_cn := D_cn.ext hk
        replace D_ci := D_ci.ext hk
        replace D_v10_22 := D_v10_22.ext hk
        have e45 : sl a31 45 = (.map (some bm)) := e45
        have e46 : sl a31 46 = (.string (name)) := e46
        have e48 : sl a31 48 = (.int .i64 ((mget A name : Int) + (1 : Int))) := e48
        replace own_bo := own_bo.ext hk
        replace own_bm := own_bm.ext hk
        replace own_b8_11 := own_b8_11.ext hk
        replace kw := kw.trans (.of_ext hk)
        clear hrest hk hg hpsi
        refine tail_updM Try.underlying67 Try.underlying9 e45 e46 e48 own_bm (fun W32 hs own_bm => ?_)
        have own_bm : OwnM W32 bm (mset A name ((mget A name : Int) + (1 : Int))) := own_bm
        replace own_bo := own_store own_bo hs hne
        replace own_b8_11 := own_store own_b8_11 hs ne_bm_b8_11.symm
        replace D_cn := sa_store D_cn hs (by simp)
        replace D_ci := sa_store D_ci hs (by simp)
        replace D_v10_22 := sf_store D_v10_22 hs (by simp)
        replace kw := keeps_storeN kw hs (by simp)
        clear hs
        refine tail_nil (hK30 _ _ ?_)
        refine wp_seq_k fun K33 hK33 => ?_
        refine wp_reg All mixed hsz31 hdf31 st_tr trivial ?_
        refine Chain.op (φ := Is (.slice v10_22a ((fv (getV x name)).length) v10_22c)) (st_is _) (sp_move (Has.base rfl e10)) ?_
        refine Chain.op (φ := Is (.slice v10_22a ((fv (getV x name)).length) v10_22c)) (st_is _) (sp_assign (Has.loc rfl)) ?_
        refine Chain.done ⟨by kernel_rfl, fun a34 g W34 hsz34 hdf34 hk hg henv hrest hpsi => ?_⟩
        obtain ⟨e6, -, -⟩ := henv
        replace D_cn := D_cn.ext hk
        replace D_ci := D_ci.ext hk
        replace D_v10_22 := D_v10_22.ext hk
        have e6 : sl a34 6 = (.slice v10_22a ((fv (getV x name)).length) v10_22c) := e6
        replace own_bo := own_bo.ext hk
        replace own_bm := own_bm.ext hk
        replace own_b8_11 := own_b8_11.ext hk
        replace kw := kw.trans (.of_ext hk)
        clear hrest hk hg hpsi
        refine tail_nil (hK33 _ _ ?_)
        refine wp_ret ?_
        refine (show bodyPost Try.prog Try.f53 _ .ret _ _ from ret1 rfl hdf34 e6 ⟨_, rfl, kw, ?_⟩)
        rw [h1, h3, h2]
        exact ⟨sf_fr D_v10_22, own_bo, own_bm⟩

set_option maxRecDepth 100000 in
theorem takeI_ok (x : V) (A : As) (e : Int) (hA : AB 1000000 A) (hx : x.wt ≤ 1073741824) (hxt : x.t.size ≤ maxLen) (name : ByteArray) (fi : FuncId) (cb : Array Value) (ce : V → Int) (fv : V → Int) (w : World) (S : BSet) (cn ci : Value) (bo bm : Nat) (hS : ∀ b o, S b o → Cln o) (hM : ∀ b ∈ [bo, bm], ∀ o, ¬ S b o) (hne : bo ≠ bm) (hv : Rd w S (strsD x.ns) cn) (hu : Rd w S (valsD x.xs) ci) (own_bo : Own w bo [.int .u8 x.k, .int .i64 x.n, .string x.t, cn, ci, .map (some bm), .int .i64 (e)] 69) (own_bm : OwnM w bm A) (ef : Enters Try.prog fi) (hf : ∀ W, Keeps (fun k => k ∉ [bo, bm]) w W → ∀ (y : V) (v : Value), y.wt ≤ 1073741824 → Rd W (Fr w) y.d v → Calls Try.prog fi (#[v] ++ cb) W (Ret W fun r _ => r = .tuple #[.int .i64 (fv y), .int .i64 (ce y)])) : Calls Try.prog 56 #[.pointer (some ⟨bo, 0, none⟩), .string name, .func (.func fi) #[] cb] w (RetL w [bo, bm] fun u W => u = .int .i64 (if tkB x e name ce then fv (getV x name) else 0) ∧ Own W bo [.int .u8 x.k, .int .i64 x.n, .string x.t, cn, ci, .map (some bm), .int .i64 (tkE x e name ce)] 69 ∧ OwnM W bm (tkA x A e name ce)) := by
  have hwx := wt_eq x
  have hwl := wts_len x.xs
  have hwn := wtN_len x.ns
  obtain ⟨cna, cnc, ev, D_cn⟩ := rdS_out (rd_argM (M := [bo, bm]) hv hM)
  subst ev
  obtain ⟨cia, cic, ev, D_ci⟩ := rdVs_out (rd_argM (M := [bo, bm]) hu hM)
  subst ev
  refine enter Try.func56 rfl Try.ntmps56 (Nat.le_of_ble_eq_true rfl) fun a0 hsz0 hdf0 harg => ?_
  have e0 : sl a0 0 = (.pointer (some ⟨bo, 0, none⟩)) := harg 0 (Nat.le_of_ble_eq_true rfl)
  have e1 : sl a0 1 = (.string (name)) := harg 1 (Nat.le_of_ble_eq_true rfl)
  have e2 : sl a0 2 = (.func (.func fi) #[] cb) := harg 2 (Nat.le_of_ble_eq_true rfl)
  have kw := Keeps.refl (fun k => k ∉ [bo, bm]) w
  clear harg
  refine wp_seq_k fun K1 hK1 => ?_
  refine wp_reg All mixed hsz0 hdf0 st_tr trivial ?_
  refine Chain.op (φ := Is (.int .i64 (0))) (st_is _) (sp_assign Has.cst) ?_
  refine Chain.done ⟨by kernel_rfl, fun a2 g W2 hsz2 hdf2 hk hg henv hrest hpsi => ?_⟩
  obtain ⟨-, -⟩ := henv
  replace e0 := (hrest 0 rfl).trans e0
  replace e1 := (hrest 1 rfl).trans e1
  replace e2 := (hrest 2 rfl).trans e2
  replace D_cn := D_cn.ext hk
  replace D_ci := D_ci.ext hk
  replace own_bo := own_bo.ext hk
  replace own_bm := own_bm.ext hk
  replace kw := kw.trans (.of_ext hk)
  clear hrest hk hg hpsi
  refine tail_nil (hK1 _ _ ?_)
  refine wp_seq_k fun K3 hK3 => ?_
  refine wp_reg All mixed hsz2 hdf2 st_tr trivial ?_
  refine Chain.op (φ := Is (.int .i64 (0))) (st_is _) (sp_assign Has.cst) ?_
  refine Chain.done ⟨by kernel_rfl, fun a4 g W4 hsz4 hdf4 hk hg henv hrest hpsi => ?_⟩
  obtain ⟨e7, -⟩ := henv
  replace e0 := (hrest 0 rfl).trans e0
  replace e1 := (hrest 1 rfl).trans e1
  replace e2 := (hrest 2 rfl).trans e2
  replace D_cn := D_cn.ext hk
  replace D_ci := D_ci.ext hk
  have e7 : sl a4 7 = (.int .i64 (0)) := e7
  replace own_bo := own_bo.ext hk
  replace own_bm := own_bm.ext hk
  replace kw := kw.trans (.of_ext hk)
  clear hrest hk hg hpsi
  refine tail_nil (hK3 _ _ ?_)
  refine wp_seq_k fun K5 hK5 => ?_
  refine wp_seq_k fun K6 hK6 => ?_
  refine wp_reg All mixed hsz4 hdf4 st_tr trivial ?_
  refine Chain.op (φ := Is (.pointer (some ⟨bo, 0, none⟩))) (st_is _) (sp_move (Has.base rfl e0)) ?_
  refine Chain.op (φ := Is (.int .i64 (errK x.k e))) (st_is _) (sp_call1 (φ1 := Is (.pointer (some ⟨bo, 0, none⟩))) ent19 (Has.loc rfl) (fun g u1 W hk hgk h1 => by have h1 : u1 = _ := h1; subst u1; exact Err_ok _ _ _ _ _ _ _ W _ (own_bo.ext hk))) ?_
  refine Chain.op (φ := Is (.bool ((errK x.k e : Int) != (0 : Int)))) (st_is _) (sp_neq (Has.loc rfl) Has.cst) ?_
  refine Chain.done ⟨by kernel_rfl, fun a7 g W7 hsz7 hdf7 hk hg henv hrest hpsi => ?_⟩
  obtain ⟨e14, -, -, -⟩ := henv
  replace e0 := (hrest 0 rfl).trans e0
  replace e1 := (hrest 1 rfl).trans e1
  replace e2 := (hrest 2 rfl).trans e2
  replace e7 := (hrest 7 rfl).trans e7
  replace D_cn := D_cn.ext hk
  replace D_ci := D_ci.ext hk
  have e14 : sl a7 14 = (.bool ((errK x.k e : Int) != (0 : Int))) := e14
  replace own_bo := own_bo.ext hk
  replace own_bm := own_bm.ext hk
  replace kw := kw.trans (.of_ext hk)
  clear hrest hk hg hpsi
  refine tail_nil (hK6 _ _ ?_)
  refine wp_cond_split e14 (fun hc => ?_) (fun hc => ?_)
  · -- T: (errK x.k e : Int) != (0 : Int)
    have hE : errK x.k e ≠ 0 := by simpa using hc
    have h1 : tkE x e name ce = e := by rw [tkE, if_pos hE]
    have h2 : tkB x e name ce = false := by simp [tkB, hE]
    have h3 : tkA x A e name ce = A := by rw [tkA, h2]; rfl
    refine wp_seq_k fun K8 hK8 => ?_
    refine wp_reg All mixed hsz7 hdf7 st_tr trivial ?_
    refine Chain.op (φ := Is (.int .i64 (0))) (st_is _) (sp_move (Has.base rfl e7)) ?_
    refine Chain.op (φ := Is (.int .i64 (0))) (st_is _) (sp_assign (Has.loc rfl)) ?_
    refine Chain.done ⟨by kernel_rfl, fun a9 g W9 hsz9 hdf9 hk hg henv hrest hpsi => ?_⟩
    obtain ⟨e6, -, -⟩ := henv
    replace D_cn := D_cn.ext hk
    replace D_ci := D_ci.ext hk
    have e6 : sl a9 6 = (.int .i64 (0)) := e6
    replace own_bo := own_bo.ext hk
    replace own_bm := own_bm.ext hk
    replace kw := kw.trans (.of_ext hk)
    clear hrest hk hg hpsi
    refine tail_nil (hK8 _ _ ?_)
    refine wp_ret ?_
    refine (show bodyPost Try.prog Try.f56 _ .ret _ _ from ret1 rfl hdf9 e6 ⟨_, rfl, kw, ?_⟩)
    rw [h1, h3, h2]
    exact ⟨rfl, own_bo, own_bm⟩
  · -- E: (errK x.k e : Int) != (0 : Int)
    have hE : errK x.k e = 0 := by simpa using hc
    have he0 := (errK_zero hE).1
    refine wp_skip (hK5 _ _ ?_)
    refine wp_seq_k fun K10 hK10 => ?_
    refine wp_reg All mixed hsz7 hdf7 st_tr trivial ?_
    refine Chain.op (φ := Is (.pointer (some ⟨bo, 0, none⟩))) (st_is _) (sp_move (Has.base rfl e0)) ?_
    refine Chain.op (φ := Is (.pointer (some ⟨bo, 0, none⟩))) (st_is _) (sp_nilP (Has.loc rfl)) ?_
    refine Chain.op (φ := Is (.pointer (some ⟨bo, 0, none⟩))) (st_is _) (sp_fieldO (Has.loc rfl) Try.underlying69 rfl sz33 rfl) ?_
    refine Chain.op (φ := Is (.agg #[(.int .u8 (x.k)), (.int .i64 (x.n)), (.string (x.t)), (.slice cna (x.ns.length) cnc), (.slice cia (x.xs.length) cic)])) (st_is _) (sp_loadO (v := (.agg #[(.int .u8 (x.k)), (.int .i64 (x.n)), (.string (x.t)), (.slice cna (x.ns.length) cnc), (.slice cia (x.xs.length) cic)])) (Has.loc rfl) own_bo trivial agg33 sz33 (Nat.le_of_ble_eq_true rfl) (fun h => by first | rfl | cases h) rfl) ?_
    refine Chain.op (φ := Is (.string (name))) (st_is _) (sp_move (Has.base rfl e1)) ?_
    refine Chain.op (φ := IsT (IsD (Fr W7) (V.d (getV (x) name))) (Is (.bool (getB (x) name)))) (st_t (st_d sub_all) (st_is _)) (sp_call2 (φ1 := IsD (SA w S [bo, bm]) (V.d (x))) (φ2 := Is (.string (name))) ent67 ((Has.loc rfl).dat (rdV_in (x := x) hxt D_cn D_ci : Rd W7 (SA w S [bo, bm]) (V.d (x)) _) sub_all) (Has.loc rfl) (fun g u1 u2 W hk hgk h1 h2 => by have h2 : u2 = _ := h2; subst u2; exact (Get_ok (x) (name) (by omega) W _ _ (fun b o h => sa_cln hS b o h.1) h1).mono (fun _ _ ⟨v, h1, h2, r1, h3, h4⟩ => ⟨v, h1, h2, r1, _, h3, fresh_d hk hgk h4, rfl⟩))) ?_
    refine Chain.op (φ := IsT (IsD (Fr W7) (V.d (getV (x) name))) (Is (.bool (getB (x) name)))) (st_t (st_d sub_all) (st_is _)) (sp_move (Has.loc rfl)) ?_
    refine Chain.op (φ := IsD (Fr W7) (V.d (getV (x) name))) (st_d sub_all) (sp_ext2 (Has.loc rfl) rfl) ?_
    refine Chain.op (φ := Is (.bool (getB (x) name))) (st_is _) (sp_ext2' (Has.loc rfl) rfl) ?_
    refine Chain.alloc z33 ?_
    refine Chain.done ⟨by kernel_rfl, fun a11 g W11 hsz11 hdf11 hk hg henv hrest hpsi => ?_⟩
    obtain ⟨⟨b8_11, e8, hb8, own_b8_11⟩, e24, e23, -, -, -, -, -, -, -, -⟩ := henv
    have lo_b8_11 : w.heap.size ≤ b8_11 := Nat.le_trans kw.size (hg.lo _ _ hb8)
    have ne_bo_b8_11 : bo ≠ b8_11 := Nat.ne_of_lt (Nat.lt_of_lt_of_le own_bo.lt (hg.lo _ _ hb8))
    have ne_bm_b8_11 : bm ≠ b8_11 := Nat.ne_of_lt (Nat.lt_of_lt_of_le own_bm.lt (hg.lo _ _ hb8))
    have own_b8_11 : Own W11 b8_11 [(.int .u8 (0)), (.int .i64 (0)), (.string (⟨#[]⟩)), (.slice none 0 0), (.slice none 0 0)] 33 := own_b8_11
    replace e0 := (hrest 0 rfl).trans e0
    replace e1 := (hrest 1 rfl).trans e1
    replace e2 := (hrest 2 rfl).trans e2
    replace e7 := (hrest 7 rfl).trans e7
    replace D_cn := sa_more D_cn hk [b8_11] (in_cons (hg.lo _ _ hb8) in_nil)
    replace D_ci := sa_more D_ci hk [b8_11] (in_cons (hg.lo _ _ hb8) in_nil)
    obtain ⟨v23_11, ev⟩ : ∃ v, sl a11 23 = v := ⟨_, rfl⟩
    rw [ev] at e23
    have D_v23_11 : Rd W11 (SF w [b8_11, bo, bm]) (V.d (getV (x) name)) v23_11 := fr_end (M := [bo, bm]) e23 kw [b8_11] (in_cons ⟨_, hb8⟩ in_nil) (in_cons own_bo.lt (in_cons own_bm.lt in_nil))
    replace e23 := ev; clear ev
    obtain ⟨cn23_11a, cn23_11c, ci23_11a, ci23_11c, ev, ht_v23_11, D_cn23_11, D_ci23_11⟩ := rdV_out D_v23_11
    subst ev; clear D_v23_11
    have e24 : sl a11 24 = (.bool (getB (x) name)) := e24
    replace own_bo := own_bo.ext hk
    replace own_bm := own_bm.ext hk
    replace kw := kw.trans (.of_ext hk)
    clear hrest hk hg hpsi hb8
    refine tail_store (b := b8_11) (o := 0) (v := (.agg #[(.int .u8 ((getV (x) name).k)), (.int .i64 ((getV (x) name).n)), (.string ((getV (x) name).t)), (.slice cn23_11a (((getV (x) name).ns).length) cn23_11c), (.slice ci23_11a (((getV (x) name).xs).length) ci23_11c)])) e8 e23 sz33 rfl own_b8_11 (Nat.le_of_ble_eq_true rfl) (all_cons rfl (all_cons rfl (all_cons rfl (all_cons rfl (all_cons rfl all_nil))))) (fun W12 hs own_b8_11 => ?_)
    have own_b8_11 : Own W12 b8_11 [(.int .u8 ((getV (x) name).k)), (.int .i64 ((getV (x) name).n)), (.string ((getV (x) name).t)), (.slice cn23_11a (((getV (x) name).ns).length) cn23_11c), (.slice ci23_11a (((getV (x) name).xs).length) ci23_11c)] 33 := own_b8_11
    replace own_bo := own_store own_bo hs ne_bo_b8_11
    replace own_bm := ownM_store own_bm hs ne_bm_b8_11
    replace D_cn := sa_store D_cn hs (by simp)
    replace D_ci := sa_store D_ci hs (by simp)
    replace D_cn23_11 := sf_store D_cn23_11 hs (by simp)
    replace D_ci23_11 := sf_store D_ci23_11 hs (by simp)
    replace kw := keeps_store kw hs lo_b8_11
    clear hs
    refine tail_assign (v := (.bool (getB (x) name))) e24 (by rw [hsz11]; exact Nat.le_of_ble_eq_true rfl) (fun a13 hsz13 hdf13 e9 hr => ?_)
    replace hsz13 := hsz13.trans hsz11; replace hdf13 := hdf13.trans hdf11
    replace e0 := (hr 0 (by decide)).trans e0
    replace e1 := (hr 1 (by decide)).trans e1
    replace e2 := (hr 2 (by decide)).trans e2
    replace e7 := (hr 7 (by decide)).trans e7
    replace e8 := (hr 8 (by decide)).trans e8
    replace e23 := (hr 23 (by decide)).trans e23
    replace e24 := (hr 24 (by decide)).trans e24
    clear hr
    refine tail_nil (hK10 _ _ ?_)
    refine wp_seq_k fun K14 hK14 => ?_
    refine wp_seq_k fun K15 hK15 => ?_
    refine wp_reg All mixed hsz13 hdf13 st_tr trivial ?_
    refine Chain.op (φ := Is (.bool (getB (x) name))) (st_is _) (sp_move (Has.base rfl e9)) ?_
    refine Chain.op (φ := Is (.bool (!(getB (x) name)))) (st_is _) (sp_not (Has.loc rfl)) ?_
    refine Chain.done ⟨by kernel_rfl, fun a16 g W16 hsz16 hdf16 hk hg henv hrest hpsi => ?_⟩
    obtain ⟨e26, -, -⟩ := henv
    replace e0 := (hrest 0 rfl).trans e0
    replace e1 := (hrest 1 rfl).trans e1
    replace e2 := (hrest 2 rfl).trans e2
    replace e7 := (hrest 7 rfl).trans e7
    replace e8 := (hrest 8 rfl).trans e8
    replace D_cn := D_cn.ext hk
    replace D_ci := D_ci.ext hk
    replace D_cn23_11 := D_cn23_11.ext hk
    replace D_ci23_11 := D_ci23_11.ext hk
    have e26 : sl a16 26 = (.bool (!(getB (x) name))) := e26
    replace own_bo := own_bo.ext hk
    replace own_bm := own_bm.ext hk
    replace own_b8_11 := own_b8_11.ext hk
    replace kw := kw.trans (.of_ext hk)
    clear hrest hk hg hpsi
    refine tail_nil (hK15 _ _ ?_)
    refine wp_cond_split e26 (fun hc => ?_) (fun hc => ?_)
    · -- T: !(getB (x) name)
      have hg0 : getB x name = false := by simpa using hc
      have h1 : tkE x e name ce = failK x.k e 6 := by rw [tkE, if_neg (by simp [hE]), if_pos hg0, failK, if_pos hE]
      have h2 : tkB x e name ce = false := by simp [tkB, hg0]
      have h3 : tkA x A e name ce = A := by rw [tkA, h2]; rfl
      refine wp_seq_k fun K17 hK17 => ?_
      refine wp_reg (fun k => k ∉ [bo]) (Ψ := fun W => Own W bo [(.int .u8 (x.k)), (.int .i64 (x.n)), (.string (x.t)), (.slice cna (x.ns.length) cnc), (.slice cia (x.xs.length) cic), (.map (some bm)), (.int .i64 (e))] 69) mixed hsz16 hdf16 stE_own own_bo ?_
      refine Chain.op (φ := Is (.pointer (some ⟨bo, 0, none⟩))) (st_is _) (sp_move (Has.base rfl e0)) ?_
      refine Chain.callL2 (φ1 := Is (.pointer (some ⟨bo, 0, none⟩))) (φ2 := Is (.int .i64 (6))) (φ := Is (.tuple #[])) (Ψ' := fun W => Own W bo [(.int .u8 (x.k)), (.int .i64 (x.n)), (.string (x.t)), (.slice cna (x.ns.length) cnc), (.slice cia (x.xs.length) cic), (.map (some bm)), (.int .i64 (failK x.k e 6))] 69) ent17 (Has.loc rfl) Has.cst (st_is _) stE_own (fun g u1 u2 W hk hg h1 h2 hpsi => by have h1 : u1 = _ := h1; subst u1; have h2 : u2 = _ := h2; subst u2; exact (Fail_ok _ _ _ _ _ _ _ (6) W _ hpsi)) ?_
      refine Chain.done ⟨by kernel_rfl, fun a18 g W18 hsz18 hdf18 hk hg henv hrest hpsi => ?_⟩
      obtain ⟨-, -, -⟩ := henv
      replace e7 := (hrest 7 rfl).trans e7
      replace D_cn := sa_keepL D_cn hk (by simp)
      replace D_ci := sa_keepL D_ci hk (by simp)
      replace D_cn23_11 := sf_keepL D_cn23_11 hk (by simp)
      replace D_ci23_11 := sf_keepL D_ci23_11 hk (by simp)
      replace own_bm := ownM_keepL own_bm hk (by simp [hne.symm])
      replace own_b8_11 := own_keepL own_b8_11 hk (by simp [ne_bo_b8_11.symm])
      have own_bo := hpsi
      replace own_bo : Own W18 bo [(.int .u8 (x.k)), (.int .i64 (x.n)), (.string (x.t)), (.slice cna (x.ns.length) cnc), (.slice cia (x.xs.length) cic), (.map (some bm)), (.int .i64 (failK x.k e 6))] 69 := own_bo
      replace kw := keeps_L kw hk (in_cons (.inr (by simp)) in_nil)
      clear hrest hk hg hpsi
      refine tail_nil (hK17 _ _ ?_)
      refine wp_seq_k fun K19 hK19 => ?_
      refine wp_reg All mixed hsz18 hdf18 st_tr trivial ?_
      refine Chain.op (φ := Is (.int .i64 (0))) (st_is _) (sp_move (Has.base rfl e7)) ?_
      refine Chain.op (φ := Is (.int .i64 (0))) (st_is _) (sp_assign (Has.loc rfl)) ?_
      refine Chain.done ⟨by kernel_rfl, fun a20 g W20 hsz20 hdf20 hk hg henv hrest hpsi => ?_⟩
      obtain ⟨e6, -, -⟩ := henv
      replace D_cn := D_cn.ext hk
      replace D_ci := D_ci.ext hk
      have e6 : sl a20 6 = (.int .i64 (0)) := e6
      replace own_bo := own_bo.ext hk
      replace own_bm := own_bm.ext hk
      replace own_b8_11 := own_b8_11.ext hk
      replace kw := kw.trans (.of_ext hk)
      clear hrest hk hg hpsi
      refine tail_nil (hK19 _ _ ?_)
      refine wp_ret ?_
      refine (show bodyPost Try.prog Try.f56 _ .ret _ _ from ret1 rfl hdf20 e6 ⟨_, rfl, kw, ?_⟩)
      rw [h1, h3, h2]
      exact ⟨rfl, own_bo, own_bm⟩
    · -- E: !(getB (x) name)
      have hg1 : getB x name = true := by simpa using hc
      have hAn := hA name
      have hwg := Nat.le_trans (getV_wt x name) hx
      refine wp_skip (hK14 _ _ ?_)
      refine wp_seq_k fun K21 hK21 => ?_
      refine wp_reg All mixed hsz16 hdf16 st_tr trivial ?_
      refine Chain.op (φ := Is (.func (.func fi) #[] cb)) (st_is _) (sp_move (Has.base rfl e2)) ?_
      refine Chain.op (φ := Is (.agg #[(.int .u8 ((getV (x) name).k)), (.int .i64 ((getV (x) name).n)), (.string ((getV (x) name).t)), (.slice cn23_11a (((getV (x) name).ns).length) cn23_11c), (.slice ci23_11a (((getV (x) name).xs).length) ci23_11c)])) (st_is _) (sp_loadO (v := (.agg #[(.int .u8 ((getV (x) name).k)), (.int .i64 ((getV (x) name).n)), (.string ((getV (x) name).t)), (.slice cn23_11a (((getV (x) name).ns).length) cn23_11c), (.slice ci23_11a (((getV (x) name).xs).length) ci23_11c)])) (Has.base rfl e8) own_b8_11 trivial agg33 sz33 (Nat.le_of_ble_eq_true rfl) (fun h => by first | rfl | cases h) rfl) ?_
      refine Chain.op (φ := Is (.tuple #[(.int .i64 (fv (getV x name))), (.int .i64 (ce (getV x name)))])) (st_is _) (sp_callF1 ef (Has.loc rfl) (Has.loc rfl) (fun g W hk hgk => hf W (kw.trans (.of_ext hk)) _ _ hwg (sf_fr (Rd.ext (rdV_in (x := (getV (x) name)) ht_v23_11 D_cn23_11 D_ci23_11 : Rd W16 (SF w [b8_11, bo, bm]) (V.d ((getV (x) name))) _) hk)))) ?_
      refine Chain.op (φ := Is (.tuple #[(.int .i64 (fv (getV x name))), (.int .i64 (ce (getV x name)))])) (st_is _) (sp_move (Has.loc rfl)) ?_
      refine Chain.op (φ := Is (.int .i64 (fv (getV x name)))) (st_is _) (sp_extT (Has.loc rfl) rfl) ?_
      refine Chain.op (φ := Is (.int .i64 (ce (getV x name)))) (st_is _) (sp_extT (Has.loc rfl) rfl) ?_
      refine Chain.op (φ := Is (.int .i64 (fv (getV x name)))) (st_is _) (sp_assign (Has.loc rfl)) ?_
      refine Chain.op (φ := Is (.int .i64 (ce (getV x name)))) (st_is _) (sp_assign (Has.loc rfl)) ?_
      refine Chain.done ⟨by kernel_rfl, fun a22 g W22 hsz22 hdf22 hk hg henv hrest hpsi => ?_⟩
      obtain ⟨e11, e10, -, -, -, -, -, -, -⟩ := henv
      replace e0 := (hrest 0 rfl).trans e0
      replace e1 := (hrest 1 rfl).trans e1
      replace e7 := (hrest 7 rfl).trans e7
      replace D_cn := D_cn.ext hk
      replace D_ci := D_ci.ext hk
      replace D_cn23_11 := D_cn23_11.ext hk
      replace D_ci23_11 := D_ci23_11.ext hk
      have e10 : sl a22 10 = (.int .i64 (fv (getV x name))) := e10
      have e11 : sl a22 11 = (.int .i64 (ce (getV x name))) := e11
      replace own_bo := own_bo.ext hk
      replace own_bm := own_bm.ext hk
      replace own_b8_11 := own_b8_11.ext hk
      replace kw := kw.trans (.of_ext hk)
      clear hrest hk hg hpsi
      refine tail_nil (hK21 _ _ ?_)
      refine wp_seq_k fun K23 hK23 => ?_
      refine wp_seq_k fun K24 hK24 => ?_
      refine wp_reg All mixed hsz22 hdf22 st_tr trivial ?_
      refine Chain.op (φ := Is (.int .i64 (ce (getV x name)))) (st_is _) (sp_move (Has.base rfl e11)) ?_
      refine Chain.op (φ := Is (.bool ((ce (getV x name) : Int) != (0 : Int)))) (st_is _) (sp_neq (Has.loc rfl) Has.cst) ?_
      refine Chain.done ⟨by kernel_rfl, fun a25 g W25 hsz25 hdf25 hk hg henv hrest hpsi => ?_⟩
      obtain ⟨e37, -, -⟩ := henv
      replace e0 := (hrest 0 rfl).trans e0
      replace e1 := (hrest 1 rfl).trans e1
      replace e7 := (hrest 7 rfl).trans e7
      replace e10 := (hrest 10 rfl).trans e10
      replace e11 := (hrest 11 rfl).trans e11
      replace D_cn := D_cn.ext hk
      replace D_ci := D_ci.ext hk
      have e37 : sl a25 37 = (.bool ((ce (getV x name) : Int) != (0 : Int))) := e37
      replace own_bo := own_bo.ext hk
      replace own_bm := own_bm.ext hk
      replace own_b8_11 := own_b8_11.ext hk
      replace kw := kw.trans (.of_ext hk)
      clear hrest hk hg hpsi
      refine tail_nil (hK24 _ _ ?_)
      refine wp_cond_split e37 (fun hc => ?_) (fun hc => ?_)
      · -- T: (ce (getV x name) : Int) != (0 : Int)
        have hce : ce (getV x name) ≠ 0 := by simpa using hc
        have h1 : tkE x e name ce = failK x.k e (ce (getV x name)) := by rw [tkE, if_neg (by simp [hE]), if_neg (by simp [hg1]), failK, if_pos hE]
        have h2 : tkB x e name ce = false := by simp [tkB, hce]
        have h3 : tkA x A e name ce = A := by rw [tkA, h2]; rfl
        refine wp_seq_k fun K26 hK26 => ?_
        refine wp_reg (fun k => k ∉ [bo]) (Ψ := fun W => Own W bo [(.int .u8 (x.k)), (.int .i64 (x.n)), (.string (x.t)), (.slice cna (x.ns.length) cnc), (.slice cia (x.xs.length) cic), (.map (some bm)), (.int .i64 (e))] 69) mixed hsz25 hdf25 stE_own own_bo ?_
        refine Chain.op (φ := Is (.pointer (some ⟨bo, 0, none⟩))) (st_is _) (sp_move (Has.base rfl e0)) ?_
        refine Chain.op (φ := Is (.int .i64 (ce (getV x name)))) (st_is _) (sp_move (Has.base rfl e11)) ?_
        refine Chain.callL2 (φ1 := Is (.pointer (some ⟨bo, 0, none⟩))) (φ2 := Is (.int .i64 (ce (getV x name)))) (φ := Is (.tuple #[])) (Ψ' := fun W => Own W bo [(.int .u8 (x.k)), (.int .i64 (x.n)), (.string (x.t)), (.slice cna (x.ns.length) cnc), (.slice cia (x.xs.length) cic), (.map (some bm)), (.int .i64 (failK x.k e (ce (getV x name))))] 69) ent17 (Has.loc rfl) (Has.loc rfl) (st_is _) stE_own (fun g u1 u2 W hk hg h1 h2 hpsi => by have h1 : u1 = _ := h1; subst u1; have h2 : u2 = _ := h2; subst u2; exact (Fail_ok _ _ _ _ _ _ _ (ce (getV x name)) W _ hpsi)) ?_
        refine Chain.done ⟨by kernel_rfl, fun a27 g W27 hsz27 hdf27 hk hg henv hrest hpsi => ?_⟩
        obtain ⟨-, -, -, -⟩ := henv
        replace e7 := (hrest 7 rfl).trans e7
        replace D_cn := sa_keepL D_cn hk (by simp)
        replace D_ci := sa_keepL D_ci hk (by simp)
        replace own_bm := ownM_keepL own_bm hk (by simp [hne.symm])
        replace own_b8_11 := own_keepL own_b8_11 hk (by simp [ne_bo_b8_11.symm])
        have own_bo := hpsi
        replace own_bo : Own W27 bo [(.int .u8 (x.k)), (.int .i64 (x.n)), (.string (x.t)), (.slice cna (x.ns.length) cnc), (.slice cia (x.xs.length) cic), (.map (some bm)), (.int .i64 (failK x.k e (ce (getV x name))))] 69 := own_bo
        replace kw := keeps_L kw hk (in_cons (.inr (by simp)) in_nil)
        clear hrest hk hg hpsi
        refine tail_nil (hK26 _ _ ?_)
        refine wp_seq_k fun K28 hK28 => ?_
        refine wp_reg All mixed hsz27 hdf27 st_tr trivial ?_
        refine Chain.op (φ := Is (.int .i64 (0))) (st_is _) (sp_move (Has.base rfl e7)) ?_
        refine Chain.op (φ := Is (.int .i64 (0))) (st_is _) (sp_assign (Has.loc rfl)) ?_
        refine Chain.done ⟨by kernel_rfl, fun a29 g W29 hsz29 hdf29 hk hg henv hrest hpsi => ?_⟩
        obtain ⟨e6, -, -⟩ := henv
        replace D_cn := D_cn.ext hk
        replace D_ci := D_ci.ext hk
        have e6 : sl a29 6 = (.int .i64 (0)) := e6
        replace own_bo := own_bo.ext hk
        replace own_bm := own_bm.ext hk
        replace own_b8_11 := own_b8_11.ext hk
        replace kw := kw.trans (.of_ext hk)
        clear hrest hk hg hpsi
        refine tail_nil (hK28 _ _ ?_)
        refine wp_ret ?_
        refine (show bodyPost Try.prog Try.f56 _ .ret _ _ from ret1 rfl hdf29 e6 ⟨_, rfl, kw, ?_⟩)
        rw [h1, h3, h2]
        exact ⟨rfl, own_bo, own_bm⟩
      · -- E: (ce (getV x name) : Int) != (0 : Int)
        have hce : ce (getV x name) = 0 := by simpa using hc
        have h1 : tkE x e name ce = e := by rw [tkE, if_neg (by simp [hE]), if_neg (by simp [hg1]), hce, he0]
        have h2 : tkB x e name ce = true := by simp [tkB, hE, hg1, hce]
        have h3 : tkA x A e name ce = mset A name (mget A name + 1) := by rw [tkA, h2]; rfl
        refine wp_skip (hK23 _ _ ?_)
        refine wp_seq_k fun K30 hK30 => ?_
        refine wp_reg All mixed hsz25 hdf25 st_tr trivial ?_
        refine Chain.op (φ := Is (.pointer (some ⟨bo, 0, none⟩))) (st_is _) (sp_move (Has.base rfl e0)) ?_
        refine Chain.op (φ := Is (.pointer (some ⟨bo, 0, none⟩))) (st_is _) (sp_nilP (Has.loc rfl)) ?_
        refine Chain.op (φ := Is (.pointer (some ⟨bo, 5, none⟩))) (st_is _) (sp_fieldO (Has.loc rfl) Try.underlying69 rfl sz67 rfl) ?_
        refine Chain.op (φ := Is (.map (some bm))) (st_is _) (sp_loadO (v := (.map (some bm))) (Has.loc rfl) own_bo trivial agg67 sz67 (Nat.le_of_ble_eq_true rfl) (fun h => by first | rfl | cases h) rfl) ?_
        refine Chain.op (φ := Is (.string (name))) (st_is _) (sp_move (Has.base rfl e1)) ?_
        refine Chain.op (φ := Is (.int .i64 (mget A name))) (st_is _) (sp_lookup Try.underlying67 Try.underlying9 z3 (Has.loc rfl) (Has.loc rfl) own_bm trivial) ?_
        refine Chain.op (φ := Is (.int .i64 ((mget A name : Int) + (1 : Int)))) (st_is _) (sp_add (Has.loc rfl) Has.cst (i64_in (by omega))) ?_
        refine Chain.done ⟨by kernel_rfl, fun a31 g W31 hsz31 hdf31 hk hg henv hrest hpsi => ?_⟩
        obtain ⟨e48, -, e46, e45, -, -, -, -⟩ := henv
        replace e10 := (hrest 10 rfl).trans e10
        replace D_cn := D_cn.ext hk
        replace D_ci := D_ci.ext hk
        have e45 : sl a31 45 = (.map (some bm)) := e45
        have e46 : sl a31 46 = (.string (name)) := e46
        have e48 : sl a31 48 = (.int .i64 ((mget A name : Int) + (1 : Int))) := e48
        replace own_bo := own_bo.ext hk
        replace own_bm := own_bm.ext hk
        replace own_b8_11 := own_b8_11.ext hk
        replace kw := kw.trans (.of_ext hk)
        clear hrest hk hg hpsi
        refine tail_updM Try.underlying67 Try.underlying9 e45 e46 e48 own_bm (fun W32 hs own_bm => ?_)
        have own_bm : OwnM W32 bm (mset A name ((mget A name : Int) + (1 : Int))) := own_bm
        replace own_bo := own_store own_bo hs hne
        replace own_b8_11 := own_store own_b8_11 hs ne_bm_b8_11.symm
        replace D_cn := sa_store D_cn hs (by simp)
        replace D_ci := sa_store D_ci hs (by simp)
        replace kw := keeps_storeN kw hs (by simp)
        clear hs
        refine tail_nil (hK30 _ _ ?_)
        refine wp_seq_k fun K33 hK33 => ?_
        refine wp_reg All mixed hsz31 hdf31 st_tr trivial ?_
        refine Chain.op (φ := Is (.int .i64 (fv (getV x name)))) (st_is _) (sp_move (Has.base rfl e10)) ?_
        refine Chain.op (φ := Is (.int .i64 (fv (getV x name)))) (st_is _) (sp_assign (Has.loc rfl)) ?_
        refine Chain.done ⟨by kernel_rfl, fun a34 g W34 hsz34 hdf34 hk hg henv hrest hpsi => ?_⟩
        obtain ⟨e6, -, -⟩ := henv
        replace D_cn := D_cn.ext hk
        replace D_ci := D_ci.ext hk
        have e6 : sl a34 6 = (.int .i64 (fv (getV x name))) := e6
        replace own_bo := own_bo.ext hk
        replace own_bm := own_bm.ext hk
        replace own_b8_11 := own_b8_11.ext hk
        replace kw := kw.trans (.of_ext hk)
        clear hrest hk hg hpsi
        refine tail_nil (hK33 _ _ ?_)
        refine wp_ret ?_
        refine (show bodyPost Try.prog Try.f56 _ .ret _ _ from ret1 rfl hdf34 e6 ⟨_, rfl, kw, ?_⟩)
        rw [h1, h3, h2]
        exact ⟨rfl, own_bo, own_bm⟩

end Go.Proofs.Ytipdogbeoflkoaa
