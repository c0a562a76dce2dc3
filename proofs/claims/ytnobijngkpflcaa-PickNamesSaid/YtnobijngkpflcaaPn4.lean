/-
  The law PickNames of package legatelaw11 (a closed statement) returns true. No condition beyond the row's own.
-/
import Derived.Test.YtnobijngkpflcaaPn3
namespace Go.Proofs.Ytnobijngkpflcaa
open Go.Eng
set_option maxRecDepth 100000 in
theorem text1_ok (x : V) (hxt : x.t.size ≤ maxLen) (w : World) (S : BSet) (v : Value) (hv : Rd w S x.d v) : Calls Try.prog 103 #[v] w (Ret w fun r _ => r = .tuple #[.string (textV x), .int .i64 (textE x)]) := by
 obtain ⟨cn0a, cn0c, ci0a, ci0c, ev, ht0, D_cn0, D_ci0⟩ := rdV_out (rd_arg hv)
 subst ev
 refine enter Try.func103 rfl Try.ntmps103 (lbr rfl) fun a0 y0 zz0 harg => ?_
 have e0 : sl a0 0 = (.agg #[(.int .u8 (x.k)), (.int .i64 (x.n)), (.string (x.t)), (.slice cn0a (x.ns.length) cn0c), (.slice ci0a (x.xs.length) ci0c)]) := harg 0 (lbr rfl)
 have kw := Keeps.refl All w
 clear harg
 refine zq fun K1 hK1 => ?_
 refine rg mixed y0 zz0 ?_
 refine .boxOp (v := (.agg #[(.int .u8 (x.k)), (.int .i64 (x.n)), (.string (x.t)), (.slice cn0a (x.ns.length) cn0c), (.slice ci0a (x.xs.length) ci0c)])) (hbs rfl e0) ?_
 refine .ac ?_
 refine .ac ?_
 refine .dn fun a2 g W2 y2 zz2 hk hg hV hR hP => ?_
 obtain ⟨-, -, ⟨b1_2, e1, hb1, own_b1_2⟩, -⟩ := hV
 have lo_b1_2 : w.heap.size ≤ b1_2 := Nat.le_trans kw.size (hg.lo _ _ hb1)
 have own_b1_2 : Own W2 b1_2 [(.int .u8 (x.k)), (.int .i64 (x.n)), (.string (x.t)), (.slice cn0a (x.ns.length) cn0c), (.slice ci0a (x.xs.length) ci0c)] 33 := own_b1_2
 replace D_cn0 := sa_more D_cn0 hk [b1_2] (in_cons (hg.lo _ _ hb1) in_nil)
 replace D_ci0 := sa_more D_ci0 hk [b1_2] (in_cons (hg.lo _ _ hb1) in_nil)
 replace kw := kw.x hk
 clear hR hk hg hP hb1
 refine zn (hK1 _ _ ?_)
 refine zq fun K3 hK3 => ?_
 refine zq fun K4 hK4 => ?_
 refine rg mixed y2 zz2 ?_
 refine .i (fo 0 (hbs rfl e1) Try.underlying33 rfl sz5 rfl) ?_
 refine .i (lo1 (hlc rfl) own_b1_2 trivial agg5 sz5 rfl) ?_
 refine .i (sp_neq (hlc rfl) Has.cst) ?_
 refine .dn fun a5 g W5 y5 zz5 hk hg hV hR hP => ?_
 obtain ⟨e6, -, -, -⟩ := hV
 replace e1 := ft hR e1
 replace D_cn0 := D_cn0.ext hk
 replace D_ci0 := D_ci0.ext hk
 replace e6 := e6.q
 replace own_b1_2 := own_b1_2.ext hk
 replace kw := kw.x hk
 clear hR hk hg hP
 refine zn (hK4 _ _ ?_)
 refine zc e6 (fun hc => ?_) (fun hc => ?_)
 ·
  have hk : x.k ≠ 3 := by simp at hc; omega
  have hf : textE x = 10 := by rw [textE, if_pos hk]
  have hv2 : textV x = ⟨#[]⟩ := by rw [textV, hf]; rfl
  refine zq fun K6 hK6 => ?_
  refine rg mixed y5 zz5 ?_
  refine .ac ?_
  refine .ac ?_
  refine .dn fun a7 g W7 y7 zz7 hk hg hV hR hP => ?_
  obtain ⟨e3, e2, -⟩ := hV
  replace D_cn0 := D_cn0.ext hk
  replace D_ci0 := D_ci0.ext hk
  replace e2 := e2.q
  replace e3 := e3.q
  replace own_b1_2 := own_b1_2.ext hk
  replace kw := kw.x hk
  clear hR hk hg hP
  refine zn (hK6 _ _ ?_)
  refine wp_ret ?_
  refine ret2 rfl zz7 e2 e3 ⟨_, rfl, kw, ?_⟩
  rw [hf, hv2]
 have hk : ¬ x.k ≠ 3 := by simp at hc; omega
 have hf : textE x = 0 := by rw [textE, if_neg hk]
 have hv2 : textV x = x.t := by rw [textV, if_pos hf]
 refine wp_skip (hK3 _ _ ?_)
 refine zq fun K8 hK8 => ?_
 refine rg mixed y5 zz5 ?_
 refine .i (fo 2 (hbs rfl e1) Try.underlying33 rfl sz9 rfl) ?_
 refine .i (lo1 (hlc rfl) own_b1_2 trivial agg9 sz9 rfl) ?_
 refine .al rfl ?_
 refine .ac ?_
 refine .dn fun a9 g W9 y9 zz9 hk hg hV hR hP => ?_
 obtain ⟨e3, e2, -, -, -⟩ := hV
 replace D_cn0 := D_cn0.ext hk
 replace D_ci0 := D_ci0.ext hk
 replace e2 := e2.q
 replace e3 := e3.q
 replace own_b1_2 := own_b1_2.ext hk
 replace kw := kw.x hk
 clear hR hk hg hP
 refine zn (hK8 _ _ ?_)
 refine wp_ret ?_
 refine ret2 rfl zz9 e2 e3 ⟨_, rfl, kw, ?_⟩
 rw [hf, hv2]
set_option maxRecDepth 100000 in
theorem takeT_ok (x : V) (A : As) (e : Int) (hA : AB 1000000 A) (hx : x.wt ≤ 1073741824) (hxt : x.t.size ≤ maxLen) (name : ByteArray) (fi : FuncId) (cb : Array Value) (ce : V → Int) (fv : V → ByteArray) (w : World) (S : BSet) (cn ci : Value) (bo bm : Nat) (hS : ∀ b o, S b o → Cln o) (hM : ∀ b ∈ [bo, bm], ∀ o, ¬ S b o) (hne : bo ≠ bm) (hv : Rd w S (strsD x.ns) cn) (hu : Rd w S (valsD x.xs) ci) (own_bo : Own w bo [.int .u8 x.k, .int .i64 x.n, .string x.t, cn, ci, .map (some bm), .int .i64 (e)] 74) (own_bm : OwnM w bm A) (ef : Enters Try.prog fi) (hf : ∀ W, Keeps (fun k => k ∉ [bo, bm]) w W → ∀ (y : V) (v : Value), y.wt ≤ 1073741824 → Rd W (Fr w) y.d v → Calls Try.prog fi (#[v] ++ cb) W (Ret W fun r _ => r = .tuple #[.string (fv y), .int .i64 (ce y)])) : Calls Try.prog 102 #[.pointer (some ⟨bo, 0, none⟩), .string name, .func (.func fi) #[] cb] w (RetL w [bo, bm] fun u W => u = .string (if tkB x e name ce then fv (getV x name) else ⟨#[]⟩) ∧ Own W bo [.int .u8 x.k, .int .i64 x.n, .string x.t, cn, ci, .map (some bm), .int .i64 (tkE x e name ce)] 74 ∧ OwnM W bm (tkA x A e name ce)) := by
 have hwx := wt_eq x
 have hwl := wts_len x.xs
 have hwn := wtN_len x.ns
 obtain ⟨cna, cnc, ev, D_cn⟩ := rdS_out (rd_argM (M := [bo, bm]) hv hM)
 subst ev
 obtain ⟨cia, cic, ev, D_ci⟩ := rdVs_out (rd_argM (M := [bo, bm]) hu hM)
 subst ev
 refine enter Try.func102 rfl Try.ntmps102 (lbr rfl) fun a0 y0 zz0 harg => ?_
 have e0 : sl a0 0 = (.pointer (some ⟨bo, 0, none⟩)) := harg 0 (lbr rfl)
 have e1 : sl a0 1 = (.string (name)) := harg 1 (lbr rfl)
 have e2 : sl a0 2 = (.func (.func fi) #[] cb) := harg 2 (lbr rfl)
 have kw := Keeps.refl (fun k => k ∉ [bo, bm]) w
 clear harg
 refine zq fun K1 hK1 => ?_
 refine rg mixed y0 zz0 ?_
 refine .ac ?_
 refine .dn fun a2 g W2 y2 zz2 hk hg hV hR hP => ?_
 obtain ⟨-, -⟩ := hV
 replace e0 := ft hR e0
 replace e1 := ft hR e1
 replace e2 := ft hR e2
 replace D_cn := D_cn.ext hk
 replace D_ci := D_ci.ext hk
 replace own_bo := own_bo.ext hk
 replace own_bm := own_bm.ext hk
 replace kw := kw.x hk
 clear hR hk hg hP
 refine zn (hK1 _ _ ?_)
 refine zq fun K3 hK3 => ?_
 refine rg mixed y2 zz2 ?_
 refine .ac ?_
 refine .dn fun a4 g W4 y4 zz4 hk hg hV hR hP => ?_
 obtain ⟨e7, -⟩ := hV
 replace e0 := ft hR e0
 replace e1 := ft hR e1
 replace e2 := ft hR e2
 replace D_cn := D_cn.ext hk
 replace D_ci := D_ci.ext hk
 replace e7 := e7.q
 replace own_bo := own_bo.ext hk
 replace own_bm := own_bm.ext hk
 replace kw := kw.x hk
 clear hR hk hg hP
 refine zn (hK3 _ _ ?_)
 refine zq fun K5 hK5 => ?_
 refine zq fun K6 hK6 => ?_
 refine rg mixed y4 zz4 ?_
 refine .mb rfl e0 ?_
 refine .i (v := (.int .i64 (errK x.k e))) (sp_call1 (φ1 := Is (.pointer (some ⟨bo, 0, none⟩))) ent24 (hlc rfl) (fun g u1 W hk hgk h1 => by have h1 : u1 = _ := h1; subst u1; exact Err_ok _ _ _ _ _ _ _ W _ (own_bo.ext hk))) ?_
 refine .i (sp_neq (hlc rfl) Has.cst) ?_
 refine .dn fun a7 g W7 y7 zz7 hk hg hV hR hP => ?_
 obtain ⟨e14, -, -, -⟩ := hV
 replace e0 := ft hR e0
 replace e1 := ft hR e1
 replace e2 := ft hR e2
 replace e7 := ft hR e7
 replace D_cn := D_cn.ext hk
 replace D_ci := D_ci.ext hk
 replace e14 := e14.q
 replace own_bo := own_bo.ext hk
 replace own_bm := own_bm.ext hk
 replace kw := kw.x hk
 clear hR hk hg hP
 refine zn (hK6 _ _ ?_)
 refine zc e14 (fun hc => ?_) (fun hc => ?_)
 ·
  have hE : errK x.k e ≠ 0 := by simpa using hc
  have h1 : tkE x e name ce = e := by rw [tkE, if_pos hE]
  have h2 : tkB x e name ce = false := by simp [tkB, hE]
  have h3 : tkA x A e name ce = A := by rw [tkA, h2]; rfl
  refine zq fun K8 hK8 => ?_
  refine rg mixed y7 zz7 ?_
  refine .mb rfl e7 ?_
  refine .al rfl ?_
  refine .dn fun a9 g W9 y9 zz9 hk hg hV hR hP => ?_
  obtain ⟨e6, -, -⟩ := hV
  replace D_cn := D_cn.ext hk
  replace D_ci := D_ci.ext hk
  replace e6 := e6.q
  replace own_bo := own_bo.ext hk
  replace own_bm := own_bm.ext hk
  replace kw := kw.x hk
  clear hR hk hg hP
  refine zn (hK8 _ _ ?_)
  refine wp_ret ?_
  refine ret1 rfl zz9 e6 ⟨_, rfl, kw, ?_⟩
  rw [h1, h3, h2]
  exact ⟨rfl, own_bo, own_bm⟩
 have hE : errK x.k e = 0 := by simpa using hc
 have he0 := (errK_zero hE).1
 refine wp_skip (hK5 _ _ ?_)
 refine zq fun K10 hK10 => ?_
 refine rg mixed y7 zz7 ?_
 refine .mb rfl e0 ?_
 refine .i (sp_nilP (hlc rfl)) ?_
 refine .i (fo 0 (hlc rfl) Try.underlying74 rfl sz33 rfl) ?_
 refine .i (v := (.agg #[(.int .u8 (x.k)), (.int .i64 (x.n)), (.string (x.t)), (.slice cna (x.ns.length) cnc), (.slice cia (x.xs.length) cic)])) (loA (hlc rfl) own_bo trivial agg33 sz33 rfl rfl) ?_
 refine .mb rfl e1 ?_
 refine .op (φ := IsT (IsD (Fr W7) (V.d (getV (x) name))) (Is (.bool (getB (x) name)))) (st_t (st_d sub_all) (st_is _)) (sp_call2 (φ1 := IsD (SA w S [bo, bm]) (V.d (x))) (φ2 := Is (.string (name))) ent101 ((hlc rfl).dat (rdV_in (x := x) hxt D_cn D_ci : Rd W7 (SA w S [bo, bm]) (V.d (x)) _) sub_all) (hlc rfl) (fun g u1 u2 W hk hgk h1 h2 => by have h2 : u2 = _ := h2; subst u2; exact (Get_ok (x) (name) (by omega) W _ _ (fun b o h => sa_cln hS b o h.1) h1).mono (fun _ _ ⟨v, h1, h2, r1, h3, h4⟩ => ⟨v, h1, h2, r1, _, h3, fresh_d hk hgk h4, rfl⟩))) ?_
 refine .op (φ := IsT (IsD (Fr W7) (V.d (getV (x) name))) (Is (.bool (getB (x) name)))) (st_t (st_d sub_all) (st_is _)) (sp_move (hlc rfl)) ?_
 refine .da (X := Fr W7) (e := V.d (getV (x) name)) (sp_ext2 (hlc rfl) rfl) ?_
 refine .i (v := (.bool (getB (x) name))) (sp_ext2' (hlc rfl) rfl) ?_
 refine .alloc z33 ?_
 refine .dn fun a11 g W11 y11 zz11 hk hg hV hR hP => ?_
 obtain ⟨⟨b8_11, e8, hb8, own_b8_11⟩, e24, e23, -, -, -, -, -, -, -, -⟩ := hV
 have lo_b8_11 : w.heap.size ≤ b8_11 := Nat.le_trans kw.size (hg.lo _ _ hb8)
 have ne_bo_b8_11 : bo ≠ b8_11 := Nat.ne_of_lt (Nat.lt_of_lt_of_le own_bo.lt (hg.lo _ _ hb8))
 have ne_bm_b8_11 : bm ≠ b8_11 := Nat.ne_of_lt (Nat.lt_of_lt_of_le own_bm.lt (hg.lo _ _ hb8))
 have own_b8_11 : Own W11 b8_11 [(.int .u8 (0)), (.int .i64 (0)), (.string (⟨#[]⟩)), (.slice none 0 0), (.slice none 0 0)] 33 := own_b8_11
 replace e0 := ft hR e0
 replace e1 := ft hR e1
 replace e2 := ft hR e2
 replace e7 := ft hR e7
 replace D_cn := sa_more D_cn hk [b8_11] (in_cons (hg.lo _ _ hb8) in_nil)
 replace D_ci := sa_more D_ci hk [b8_11] (in_cons (hg.lo _ _ hb8) in_nil)
 obtain ⟨v23_11, ev⟩ : ∃ v, sl a11 23 = v := ⟨_, rfl⟩
 rw [ev] at e23
 have D_v23_11 : Rd W11 (SF w [b8_11, bo, bm]) (V.d (getV (x) name)) v23_11 := fr_end (M := [bo, bm]) e23 kw [b8_11] (in_cons ⟨_, hb8⟩ in_nil) (in_cons own_bo.lt (in_cons own_bm.lt in_nil))
 replace e23 := ev; clear ev
 obtain ⟨cn23_11a, cn23_11c, ci23_11a, ci23_11c, ev, ht_v23_11, D_cn23_11, D_ci23_11⟩ := rdV_out D_v23_11
 subst ev; clear D_v23_11
 replace e24 := e24.q
 replace own_bo := own_bo.ext hk
 replace own_bm := own_bm.ext hk
 replace kw := kw.x hk
 clear hR hk hg hP hb8
 refine tail_store e8 e23 sz33 rfl own_b8_11 (lbr rfl) (all_cons rfl (all_cons rfl (all_cons rfl (all_cons rfl (all_cons rfl all_nil))))) (fun W12 hs own_b8_11 => ?_)
 have own_b8_11 : Own W12 b8_11 [(.int .u8 ((getV (x) name).k)), (.int .i64 ((getV (x) name).n)), (.string ((getV (x) name).t)), (.slice cn23_11a (((getV (x) name).ns).length) cn23_11c), (.slice ci23_11a (((getV (x) name).xs).length) ci23_11c)] 33 := own_b8_11
 replace own_bo := own_store own_bo hs ne_bo_b8_11
 replace own_bm := ownM_store own_bm hs ne_bm_b8_11
 replace D_cn := sa_store D_cn hs (by simp)
 replace D_ci := sa_store D_ci hs (by simp)
 replace D_cn23_11 := sf_store D_cn23_11 hs (by simp)
 replace D_ci23_11 := sf_store D_ci23_11 hs (by simp)
 replace kw := keeps_store kw hs lo_b8_11
 clear hs
 refine tail_assign (v := (.bool (getB (x) name))) e24 (by rw [y11]; exact Nat.le_of_ble_eq_true rfl) (fun a13 y13 zz13 e9 hr => ?_)
 replace y13 := y13.trans y11; replace zz13 := zz13.trans zz11
 replace e0 := (hr 0 (by decide)).trans e0
 replace e1 := (hr 1 (by decide)).trans e1
 replace e2 := (hr 2 (by decide)).trans e2
 replace e7 := (hr 7 (by decide)).trans e7
 replace e8 := (hr 8 (by decide)).trans e8
 replace e23 := (hr 23 (by decide)).trans e23
 replace e24 := (hr 24 (by decide)).trans e24
 clear hr
 refine zn (hK10 _ _ ?_)
 refine zq fun K14 hK14 => ?_
 refine zq fun K15 hK15 => ?_
 refine rg mixed y13 zz13 ?_
 refine .mb rfl e9 ?_
 refine .i (sp_not (hlc rfl)) ?_
 refine .dn fun a16 g W16 y16 zz16 hk hg hV hR hP => ?_
 obtain ⟨e26, -, -⟩ := hV
 replace e0 := ft hR e0
 replace e1 := ft hR e1
 replace e2 := ft hR e2
 replace e7 := ft hR e7
 replace e8 := ft hR e8
 replace D_cn := D_cn.ext hk
 replace D_ci := D_ci.ext hk
 replace D_cn23_11 := D_cn23_11.ext hk
 replace D_ci23_11 := D_ci23_11.ext hk
 replace e26 := e26.q
 replace own_bo := own_bo.ext hk
 replace own_bm := own_bm.ext hk
 replace own_b8_11 := own_b8_11.ext hk
 replace kw := kw.x hk
 clear hR hk hg hP
 refine zn (hK15 _ _ ?_)
 refine zc e26 (fun hc => ?_) (fun hc => ?_)
 ·
  have hg0 : getB x name = false := by simpa using hc
  have h1 : tkE x e name ce = failK x.k e 6 := by rw [tkE, if_neg (by simp [hE]), if_pos hg0, failK, if_pos hE]
  have h2 : tkB x e name ce = false := by simp [tkB, hg0]
  have h3 : tkA x A e name ce = A := by rw [tkA, h2]; rfl
  refine zq fun K17 hK17 => ?_
  refine wp_reg (fun k => k ∉ [bo]) (Ψ := fun W => Own W bo [(.int .u8 (x.k)), (.int .i64 (x.n)), (.string (x.t)), (.slice cna (x.ns.length) cnc), (.slice cia (x.xs.length) cic), (.map (some bm)), (.int .i64 (e))] 74) mixed y16 zz16 stE_own own_bo ?_
  refine .mb rfl e0 ?_
  refine .callL2 (φ1 := Is (.pointer (some ⟨bo, 0, none⟩))) (φ2 := Is (.int .i64 (6))) (φ := Is (.tuple #[])) (Ψ' := fun W => Own W bo [(.int .u8 (x.k)), (.int .i64 (x.n)), (.string (x.t)), (.slice cna (x.ns.length) cnc), (.slice cia (x.xs.length) cic), (.map (some bm)), (.int .i64 (failK x.k e 6))] 74) ent22 (hlc rfl) Has.cst (st_is _) stE_own (fun g u1 u2 W hk hg h1 h2 hP => by have h1 : u1 = _ := h1; subst u1; have h2 : u2 = _ := h2; subst u2; exact (Fail_ok _ _ _ _ _ _ _ (6) W _ hP)) ?_
  refine .dn fun a18 g W18 y18 zz18 hk hg hV hR hP => ?_
  obtain ⟨-, -, -⟩ := hV
  replace e7 := ft hR e7
  replace D_cn := sa_keepL D_cn hk (by simp)
  replace D_ci := sa_keepL D_ci hk (by simp)
  replace D_cn23_11 := sf_keepL D_cn23_11 hk (by simp)
  replace D_ci23_11 := sf_keepL D_ci23_11 hk (by simp)
  replace own_bm := ownM_keepL own_bm hk (by simp [hne.symm])
  replace own_b8_11 := own_keepL own_b8_11 hk (by simp [ne_bo_b8_11.symm])
  have own_bo := hP
  replace own_bo : Own W18 bo [(.int .u8 (x.k)), (.int .i64 (x.n)), (.string (x.t)), (.slice cna (x.ns.length) cnc), (.slice cia (x.xs.length) cic), (.map (some bm)), (.int .i64 (failK x.k e 6))] 74 := own_bo
  replace kw := keeps_L kw hk (in_cons (.inr (by simp)) in_nil)
  clear hR hk hg hP
  refine zn (hK17 _ _ ?_)
  refine zq fun K19 hK19 => ?_
  refine rg mixed y18 zz18 ?_
  refine .mb rfl e7 ?_
  refine .al rfl ?_
  refine .dn fun a20 g W20 y20 zz20 hk hg hV hR hP => ?_
  obtain ⟨e6, -, -⟩ := hV
  replace D_cn := D_cn.ext hk
  replace D_ci := D_ci.ext hk
  replace e6 := e6.q
  replace own_bo := own_bo.ext hk
  replace own_bm := own_bm.ext hk
  replace own_b8_11 := own_b8_11.ext hk
  replace kw := kw.x hk
  clear hR hk hg hP
  refine zn (hK19 _ _ ?_)
  refine wp_ret ?_
  refine ret1 rfl zz20 e6 ⟨_, rfl, kw, ?_⟩
  rw [h1, h3, h2]
  exact ⟨rfl, own_bo, own_bm⟩
 have hg1 : getB x name = true := by simpa using hc
 have hAn := hA name
 have hwg := Nat.le_trans (getV_wt x name) hx
 refine wp_skip (hK14 _ _ ?_)
 refine zq fun K21 hK21 => ?_
 refine rg mixed y16 zz16 ?_
 refine .mb rfl e2 ?_
 refine .i (v := (.agg #[(.int .u8 ((getV (x) name).k)), (.int .i64 ((getV (x) name).n)), (.string ((getV (x) name).t)), (.slice cn23_11a (((getV (x) name).ns).length) cn23_11c), (.slice ci23_11a (((getV (x) name).xs).length) ci23_11c)])) (loA (hbs rfl e8) own_b8_11 trivial agg33 sz33 rfl rfl) ?_
 refine .i (v := (.tuple #[(.string (fv (getV x name))), (.int .i64 (ce (getV x name)))])) (sp_callF1 ef (hlc rfl) (hlc rfl) (fun g W hk hgk => hf W (kw.trans (.of_ext hk)) _ _ hwg (sf_fr (Rd.ext (rdV_in (x := (getV (x) name)) ht_v23_11 D_cn23_11 D_ci23_11 : Rd W16 (SF w [b8_11, bo, bm]) (V.d ((getV (x) name))) _) hk)))) ?_
 refine .i (sp_move (hlc rfl)) ?_
 refine .i (v := (.string (fv (getV x name)))) (sp_extT (hlc rfl) rfl) ?_
 refine .i (v := (.int .i64 (ce (getV x name)))) (sp_extT (hlc rfl) rfl) ?_
 refine .al rfl ?_
 refine .al rfl ?_
 refine .dn fun a22 g W22 y22 zz22 hk hg hV hR hP => ?_
 obtain ⟨e11, e10, -, -, -, -, -, -, -⟩ := hV
 replace e0 := ft hR e0
 replace e1 := ft hR e1
 replace e7 := ft hR e7
 replace D_cn := D_cn.ext hk
 replace D_ci := D_ci.ext hk
 replace D_cn23_11 := D_cn23_11.ext hk
 replace D_ci23_11 := D_ci23_11.ext hk
 replace e10 := e10.q
 replace e11 := e11.q
 replace own_bo := own_bo.ext hk
 replace own_bm := own_bm.ext hk
 replace own_b8_11 := own_b8_11.ext hk
 replace kw := kw.x hk
 clear hR hk hg hP
 refine zn (hK21 _ _ ?_)
 refine zq fun K23 hK23 => ?_
 refine zq fun K24 hK24 => ?_
 refine rg mixed y22 zz22 ?_
 refine .mb rfl e11 ?_
 refine .i (sp_neq (hlc rfl) Has.cst) ?_
 refine .dn fun a25 g W25 y25 zz25 hk hg hV hR hP => ?_
 obtain ⟨e37, -, -⟩ := hV
 replace e0 := ft hR e0
 replace e1 := ft hR e1
 replace e7 := ft hR e7
 replace e10 := ft hR e10
 replace e11 := ft hR e11
 replace D_cn := D_cn.ext hk
 replace D_ci := D_ci.ext hk
 replace e37 := e37.q
 replace own_bo := own_bo.ext hk
 replace own_bm := own_bm.ext hk
 replace own_b8_11 := own_b8_11.ext hk
 replace kw := kw.x hk
 clear hR hk hg hP
 refine zn (hK24 _ _ ?_)
 refine zc e37 (fun hc => ?_) (fun hc => ?_)
 ·
  have hce : ce (getV x name) ≠ 0 := by simpa using hc
  have h1 : tkE x e name ce = failK x.k e (ce (getV x name)) := by rw [tkE, if_neg (by simp [hE]), if_neg (by simp [hg1]), failK, if_pos hE]
  have h2 : tkB x e name ce = false := by simp [tkB, hce]
  have h3 : tkA x A e name ce = A := by rw [tkA, h2]; rfl
  refine zq fun K26 hK26 => ?_
  refine wp_reg (fun k => k ∉ [bo]) (Ψ := fun W => Own W bo [(.int .u8 (x.k)), (.int .i64 (x.n)), (.string (x.t)), (.slice cna (x.ns.length) cnc), (.slice cia (x.xs.length) cic), (.map (some bm)), (.int .i64 (e))] 74) mixed y25 zz25 stE_own own_bo ?_
  refine .mb rfl e0 ?_
  refine .mb rfl e11 ?_
  refine .callL2 (φ1 := Is (.pointer (some ⟨bo, 0, none⟩))) (φ2 := Is (.int .i64 (ce (getV x name)))) (φ := Is (.tuple #[])) (Ψ' := fun W => Own W bo [(.int .u8 (x.k)), (.int .i64 (x.n)), (.string (x.t)), (.slice cna (x.ns.length) cnc), (.slice cia (x.xs.length) cic), (.map (some bm)), (.int .i64 (failK x.k e (ce (getV x name))))] 74) ent22 (hlc rfl) (hlc rfl) (st_is _) stE_own (fun g u1 u2 W hk hg h1 h2 hP => by have h1 : u1 = _ := h1; subst u1; have h2 : u2 = _ := h2; subst u2; exact (Fail_ok _ _ _ _ _ _ _ (ce (getV x name)) W _ hP)) ?_
  refine .dn fun a27 g W27 y27 zz27 hk hg hV hR hP => ?_
  obtain ⟨-, -, -, -⟩ := hV
  replace e7 := ft hR e7
  replace D_cn := sa_keepL D_cn hk (by simp)
  replace D_ci := sa_keepL D_ci hk (by simp)
  replace own_bm := ownM_keepL own_bm hk (by simp [hne.symm])
  replace own_b8_11 := own_keepL own_b8_11 hk (by simp [ne_bo_b8_11.symm])
  have own_bo := hP
  replace own_bo : Own W27 bo [(.int .u8 (x.k)), (.int .i64 (x.n)), (.string (x.t)), (.slice cna (x.ns.length) cnc), (.slice cia (x.xs.length) cic), (.map (some bm)), (.int .i64 (failK x.k e (ce (getV x name))))] 74 := own_bo
  replace kw := keeps_L kw hk (in_cons (.inr (by simp)) in_nil)
  clear hR hk hg hP
  refine zn (hK26 _ _ ?_)
  refine zq fun K28 hK28 => ?_
  refine rg mixed y27 zz27 ?_
  refine .mb rfl e7 ?_
  refine .al rfl ?_
  refine .dn fun a29 g W29 y29 zz29 hk hg hV hR hP => ?_
  obtain ⟨e6, -, -⟩ := hV
  replace D_cn := D_cn.ext hk
  replace D_ci := D_ci.ext hk
  replace e6 := e6.q
  replace own_bo := own_bo.ext hk
  replace own_bm := own_bm.ext hk
  replace own_b8_11 := own_b8_11.ext hk
  replace kw := kw.x hk
  clear hR hk hg hP
  refine zn (hK28 _ _ ?_)
  refine wp_ret ?_
  refine ret1 rfl zz29 e6 ⟨_, rfl, kw, ?_⟩
  rw [h1, h3, h2]
  exact ⟨rfl, own_bo, own_bm⟩
 have hce : ce (getV x name) = 0 := by simpa using hc
 have h1 : tkE x e name ce = e := by rw [tkE, if_neg (by simp [hE]), if_neg (by simp [hg1]), hce, he0]
 have h2 : tkB x e name ce = true := by simp [tkB, hE, hg1, hce]
 have h3 : tkA x A e name ce = mset A name (mget A name + 1) := by rw [tkA, h2]; rfl
 refine wp_skip (hK23 _ _ ?_)
 refine zq fun K30 hK30 => ?_
 refine rg mixed y25 zz25 ?_
 refine .mb rfl e0 ?_
 refine .i (sp_nilP (hlc rfl)) ?_
 refine .i (fo 5 (hlc rfl) Try.underlying74 rfl sz72 rfl) ?_
 refine .i (lo1 (hlc rfl) own_bo trivial agg72 sz72 rfl) ?_
 refine .mb rfl e1 ?_
 refine .i (sp_lookup Try.underlying72 Try.underlying9 z3 (hlc rfl) (hlc rfl) own_bm trivial) ?_
 refine .i (sp_add (hlc rfl) Has.cst (i64_in (by omega))) ?_
 refine .dn fun a31 g W31 y31 zz31 hk hg hV hR hP => ?_
 obtain ⟨e48, -, e46, e45, -, -, -, -⟩ := hV
 replace e10 := ft hR e10
 replace D_cn := D_cn.ext hk
 replace D_ci := D_ci.ext hk
 replace e45 := e45.q
 replace e46 := e46.q
 replace e48 := e48.q
 replace own_bo := own_bo.ext hk
 replace own_bm := own_bm.ext hk
 replace own_b8_11 := own_b8_11.ext hk
 replace kw := kw.x hk
 clear hR hk hg hP
 refine tail_updM Try.underlying72 Try.underlying9 e45 e46 e48 own_bm (fun W32 hs own_bm => ?_)
 have own_bm : OwnM W32 bm (mset A name ((mget A name : Int) + (1 : Int))) := own_bm
 replace own_bo := own_store own_bo hs hne
 replace own_b8_11 := own_store own_b8_11 hs ne_bm_b8_11.symm
 replace D_cn := sa_store D_cn hs (by simp)
 replace D_ci := sa_store D_ci hs (by simp)
 replace kw := keeps_storeN kw hs (by simp)
 clear hs
 refine zn (hK30 _ _ ?_)
 refine zq fun K33 hK33 => ?_
 refine rg mixed y31 zz31 ?_
 refine .mb rfl e10 ?_
 refine .al rfl ?_
 refine .dn fun a34 g W34 y34 zz34 hk hg hV hR hP => ?_
 obtain ⟨e6, -, -⟩ := hV
 replace D_cn := D_cn.ext hk
 replace D_ci := D_ci.ext hk
 replace e6 := e6.q
 replace own_bo := own_bo.ext hk
 replace own_bm := own_bm.ext hk
 replace own_b8_11 := own_b8_11.ext hk
 replace kw := kw.x hk
 clear hR hk hg hP
 refine zn (hK33 _ _ ?_)
 refine wp_ret ?_
 refine ret1 rfl zz34 e6 ⟨_, rfl, kw, ?_⟩
 rw [h1, h3, h2]
 exact ⟨rfl, own_bo, own_bm⟩
set_option maxRecDepth 100000 in
theorem takeTD_ok (k : Nat) (n : Int) (t : ByteArray) (cn ci mv : Value) (e : Int) (hE : errK k e ≠ 0) (name : ByteArray) (fv : Value) (w : World) (bo : Nat) (own_bo : Own w bo [.int .u8 k, .int .i64 n, .string t, cn, ci, mv, .int .i64 e] 74) : Calls Try.prog 102 #[.pointer (some ⟨bo, 0, none⟩), .string name, fv] w (Ret w fun u _ => u = .string ⟨#[]⟩) := by
 refine enter Try.func102 rfl Try.ntmps102 (lbr rfl) fun a0 y0 zz0 harg => ?_
 have e0 : sl a0 0 = (.pointer (some ⟨bo, 0, none⟩)) := harg 0 (lbr rfl)
 have e1 : sl a0 1 = (.string (name)) := harg 1 (lbr rfl)
 have e2 : sl a0 2 = fv := harg 2 (lbr rfl)
 have kw := Keeps.refl All w
 clear harg
 refine zq fun K1 hK1 => ?_
 refine rg mixed y0 zz0 ?_
 refine .ac ?_
 refine .dn fun a2 g W2 y2 zz2 hk hg hV hR hP => ?_
 obtain ⟨-, -⟩ := hV
 replace e0 := ft hR e0
 replace e1 := ft hR e1
 replace e2 := ft hR e2
 replace own_bo := own_bo.ext hk
 replace kw := kw.x hk
 clear hR hk hg hP
 refine zn (hK1 _ _ ?_)
 refine zq fun K3 hK3 => ?_
 refine rg mixed y2 zz2 ?_
 refine .ac ?_
 refine .dn fun a4 g W4 y4 zz4 hk hg hV hR hP => ?_
 obtain ⟨e7, -⟩ := hV
 replace e0 := ft hR e0
 replace e1 := ft hR e1
 replace e2 := ft hR e2
 replace e7 := e7.q
 replace own_bo := own_bo.ext hk
 replace kw := kw.x hk
 clear hR hk hg hP
 refine zn (hK3 _ _ ?_)
 refine zq fun K5 hK5 => ?_
 refine zq fun K6 hK6 => ?_
 refine rg mixed y4 zz4 ?_
 refine .mb rfl e0 ?_
 refine .i (v := (.int .i64 (errK (k : Nat) e))) (sp_call1 (φ1 := Is (.pointer (some ⟨bo, 0, none⟩))) ent24 (hlc rfl) (fun g u1 W hk hgk h1 => by have h1 : u1 = _ := h1; subst u1; exact Err_ok _ _ _ _ _ _ _ W _ (own_bo.ext hk))) ?_
 refine .i (sp_neq (hlc rfl) Has.cst) ?_
 refine .dn fun a7 g W7 y7 zz7 hk hg hV hR hP => ?_
 obtain ⟨e14, -, -, -⟩ := hV
 replace e0 := ft hR e0
 replace e1 := ft hR e1
 replace e2 := ft hR e2
 replace e7 := ft hR e7
 replace e14 := e14.q
 replace own_bo := own_bo.ext hk
 replace kw := kw.x hk
 clear hR hk hg hP
 refine zn (hK6 _ _ ?_)
 refine zc e14 (fun hc => ?_) (fun hc => ?_)
 ·
  refine zq fun K8 hK8 => ?_
  refine rg mixed y7 zz7 ?_
  refine .mb rfl e7 ?_
  refine .al rfl ?_
  refine .dn fun a9 g W9 y9 zz9 hk hg hV hR hP => ?_
  obtain ⟨e6, -, -⟩ := hV
  replace e6 := e6.q
  replace own_bo := own_bo.ext hk
  replace kw := kw.x hk
  clear hR hk hg hP
  refine zn (hK8 _ _ ?_)
  refine wp_ret ?_
  refine ret1 rfl zz9 e6 ⟨_, rfl, kw, ?_⟩
  exact rfl
 exfalso
 exact hE (by simpa using hc)
set_option maxRecDepth 100000 in
theorem Text_ok (x : V) (A : As) (e : Int) (hA : AB 1000000 A) (hx : x.wt ≤ 1073741824) (hxt : x.t.size ≤ maxLen) (name : ByteArray) (w : World) (S : BSet) (cn ci : Value) (bo bm : Nat) (hS : ∀ b o, S b o → Cln o) (hM : ∀ b ∈ [bo, bm], ∀ o, ¬ S b o) (hne : bo ≠ bm) (hv : Rd w S (strsD x.ns) cn) (hu : Rd w S (valsD x.xs) ci) (own_bo : Own w bo [.int .u8 x.k, .int .i64 x.n, .string x.t, cn, ci, .map (some bm), .int .i64 (e)] 74) (own_bm : OwnM w bm A) : Calls Try.prog 43 #[.pointer (some ⟨bo, 0, none⟩), .string name] w (RetL w [bo, bm] fun u W => u = .string (if tkB x e name textE then textV (getV x name) else ⟨#[]⟩) ∧ Own W bo [.int .u8 x.k, .int .i64 x.n, .string x.t, cn, ci, .map (some bm), .int .i64 (tkE x e name textE)] 74 ∧ OwnM W bm (tkA x A e name textE)) := by
 obtain ⟨cna, cnc, ev, D_cn⟩ := rdS_out (rd_argM (M := [bo, bm]) hv hM)
 subst ev
 obtain ⟨cia, cic, ev, D_ci⟩ := rdVs_out (rd_argM (M := [bo, bm]) hu hM)
 subst ev
 refine enter Try.func43 rfl Try.ntmps43 (lbr rfl) fun a0 y0 zz0 harg => ?_
 have e0 : sl a0 0 = (.pointer (some ⟨bo, 0, none⟩)) := harg 0 (lbr rfl)
 have e1 : sl a0 1 = (.string (name)) := harg 1 (lbr rfl)
 have kw := Keeps.refl (fun k => k ∉ [bo, bm]) w
 clear harg
 refine zq fun K1 hK1 => ?_
 refine rg mixed y0 zz0 ?_
 refine .ac ?_
 refine .dn fun a2 g W2 y2 zz2 hk hg hV hR hP => ?_
 obtain ⟨-, -⟩ := hV
 replace e0 := ft hR e0
 replace e1 := ft hR e1
 replace D_cn := D_cn.ext hk
 replace D_ci := D_ci.ext hk
 replace own_bo := own_bo.ext hk
 replace own_bm := own_bm.ext hk
 replace kw := kw.x hk
 clear hR hk hg hP
 refine zn (hK1 _ _ ?_)
 refine zq fun K3 hK3 => ?_
 refine wp_reg (fun k => k ∉ [bo, bm]) (Ψ := fun W => Own W bo [(.int .u8 (x.k)), (.int .i64 (x.n)), (.string (x.t)), (.slice cna (x.ns.length) cnc), (.slice cia (x.xs.length) cic), (.map (some bm)), (.int .i64 (e))] 74 ∧ OwnM W bm (A)) mixed y2 zz2 (stE_and stE_own stE_ownM) ⟨own_bo, own_bm⟩ ?_
 refine .mb rfl e0 ?_
 refine .mb rfl e1 ?_
 refine .callL3 (φ1 := Is (.pointer (some ⟨bo, 0, none⟩))) (φ2 := Is (.string (name))) (φ3 := Is (.func (.func 103) #[] #[])) (φ := Is (.string (if tkB x e name textE then textV (getV x name) else ⟨#[]⟩))) (Ψ' := fun W => Own W bo [(.int .u8 (x.k)), (.int .i64 (x.n)), (.string (x.t)), (.slice cna (x.ns.length) cnc), (.slice cia (x.xs.length) cic), (.map (some bm)), (.int .i64 (tkE x e name textE))] 74 ∧ OwnM W bm (tkA x A e name textE)) ent102 (hlc rfl) (hlc rfl) Has.fn (st_is _) (stE_and stE_own stE_ownM) (fun g u1 u2 u3 W hk hg h1 h2 h3 hP => by have h1 : u1 = _ := h1; subst u1; have h2 : u2 = _ := h2; subst u2; have h3 : u3 = _ := h3; subst u3; exact (takeT_ok (x) (A) (e) hA hx hxt name 103 #[] textE textV W _ _ _ _ _ (sa_cln hS) (sa_notin (by simp)) hne (sa_keepL D_cn hk (by simp)) (sa_keepL D_ci hk (by simp)) hP.1 hP.2 ent103 (fun W2 hk2 y v hy hv2 => text1_ok y (by obtain ⟨_, _, _, _, _, h, _⟩ := rdV_out hv2; exact h) W2 _ v hv2))) ?_
 refine .al rfl ?_
 refine .dn fun a4 g W4 y4 zz4 hk hg hV hR hP => ?_
 obtain ⟨e4, -, -, -, -⟩ := hV
 replace e4 := e4.q
 replace D_cn := sa_keepL D_cn hk (by simp)
 replace D_ci := sa_keepL D_ci hk (by simp)
 obtain ⟨own_bo, own_bm⟩ := hP
 replace own_bo : Own W4 bo [(.int .u8 (x.k)), (.int .i64 (x.n)), (.string (x.t)), (.slice cna (x.ns.length) cnc), (.slice cia (x.xs.length) cic), (.map (some bm)), (.int .i64 (tkE x e name textE))] 74 := own_bo
 replace own_bm : OwnM W4 bm (tkA x A e name textE) := own_bm
 replace kw := keeps_L kw hk (in_cons (.inr (by simp)) (in_cons (.inr (by simp)) in_nil))
 clear hR hk hg
 refine zn (hK3 _ _ ?_)
 refine wp_ret ?_
 refine ret1 rfl zz4 e4 ⟨_, rfl, kw, ?_⟩
 exact ⟨rfl, own_bo, own_bm⟩
set_option maxRecDepth 100000 in
theorem TextD_ok (k : Nat) (n : Int) (t : ByteArray) (cn ci mv : Value) (e : Int) (hE : errK k e ≠ 0) (name : ByteArray) (w : World) (bo : Nat) (own_bo : Own w bo [.int .u8 k, .int .i64 n, .string t, cn, ci, mv, .int .i64 e] 74) : Calls Try.prog 43 #[.pointer (some ⟨bo, 0, none⟩), .string name] w (Ret w fun u _ => u = .string ⟨#[]⟩) := by
 refine enter Try.func43 rfl Try.ntmps43 (lbr rfl) fun a0 y0 zz0 harg => ?_
 have e0 : sl a0 0 = (.pointer (some ⟨bo, 0, none⟩)) := harg 0 (lbr rfl)
 have e1 : sl a0 1 = (.string (name)) := harg 1 (lbr rfl)
 have kw := Keeps.refl All w
 clear harg
 refine zq fun K1 hK1 => ?_
 refine rg mixed y0 zz0 ?_
 refine .ac ?_
 refine .dn fun a2 g W2 y2 zz2 hk hg hV hR hP => ?_
 obtain ⟨-, -⟩ := hV
 replace e0 := ft hR e0
 replace e1 := ft hR e1
 replace own_bo := own_bo.ext hk
 replace kw := kw.x hk
 clear hR hk hg hP
 refine zn (hK1 _ _ ?_)
 refine zq fun K3 hK3 => ?_
 refine rg mixed y2 zz2 ?_
 refine .mb rfl e0 ?_
 refine .mb rfl e1 ?_
 refine .i (v := (.string (⟨#[]⟩))) (sp_call3 (φ1 := Is (.pointer (some ⟨bo, 0, none⟩))) (φ2 := Is (.string (name))) (φ3 := Is (.func (.func 103) #[] #[])) ent102 (hlc rfl) (hlc rfl) Has.fn (fun g u1 u2 u3 W hk hgk h1 h2 h3 => by have h1 : u1 = _ := h1; subst u1; have h2 : u2 = _ := h2; subst u2; have h3 : u3 = _ := h3; subst u3; exact takeTD_ok _ _ _ _ _ _ _ hE _ _ W _ (own_bo.ext hk))) ?_
 refine .al rfl ?_
 refine .dn fun a4 g W4 y4 zz4 hk hg hV hR hP => ?_
 obtain ⟨e4, -, -, -, -⟩ := hV
 replace e4 := e4.q
 replace own_bo := own_bo.ext hk
 replace kw := kw.x hk
 clear hR hk hg hP
 refine zn (hK3 _ _ ?_)
 refine wp_ret ?_
 refine ret1 rfl zz4 e4 ⟨_, rfl, kw, ?_⟩
 exact rfl
set_option maxRecDepth 100000 in
theorem bool1_ok (x : V) (hxt : x.t.size ≤ maxLen) (w : World) (S : BSet) (v : Value) (hv : Rd w S x.d v) : Calls Try.prog 107 #[v] w (Ret w fun r _ => r = .tuple #[.bool (boolV x), .int .i64 (boolE x)]) := by
 obtain ⟨cn0a, cn0c, ci0a, ci0c, ev, ht0, D_cn0, D_ci0⟩ := rdV_out (rd_arg hv)
 subst ev
 refine enter Try.func107 rfl Try.ntmps107 (lbr rfl) fun a0 y0 zz0 harg => ?_
 have e0 : sl a0 0 = (.agg #[(.int .u8 (x.k)), (.int .i64 (x.n)), (.string (x.t)), (.slice cn0a (x.ns.length) cn0c), (.slice ci0a (x.xs.length) ci0c)]) := harg 0 (lbr rfl)
 have kw := Keeps.refl All w
 clear harg
 refine zq fun K1 hK1 => ?_
 refine rg mixed y0 zz0 ?_
 refine .boxOp (v := (.agg #[(.int .u8 (x.k)), (.int .i64 (x.n)), (.string (x.t)), (.slice cn0a (x.ns.length) cn0c), (.slice ci0a (x.xs.length) ci0c)])) (hbs rfl e0) ?_
 refine .ac ?_
 refine .ac ?_
 refine .dn fun a2 g W2 y2 zz2 hk hg hV hR hP => ?_
 obtain ⟨-, -, ⟨b1_2, e1, hb1, own_b1_2⟩, -⟩ := hV
 have lo_b1_2 : w.heap.size ≤ b1_2 := Nat.le_trans kw.size (hg.lo _ _ hb1)
 have own_b1_2 : Own W2 b1_2 [(.int .u8 (x.k)), (.int .i64 (x.n)), (.string (x.t)), (.slice cn0a (x.ns.length) cn0c), (.slice ci0a (x.xs.length) ci0c)] 33 := own_b1_2
 replace D_cn0 := sa_more D_cn0 hk [b1_2] (in_cons (hg.lo _ _ hb1) in_nil)
 replace D_ci0 := sa_more D_ci0 hk [b1_2] (in_cons (hg.lo _ _ hb1) in_nil)
 replace kw := kw.x hk
 clear hR hk hg hP hb1
 refine zn (hK1 _ _ ?_)
 refine zq fun K3 hK3 => ?_
 refine zq fun K4 hK4 => ?_
 refine rg mixed y2 zz2 ?_
 refine .i (fo 0 (hbs rfl e1) Try.underlying33 rfl sz5 rfl) ?_
 refine .i (lo1 (hlc rfl) own_b1_2 trivial agg5 sz5 rfl) ?_
 refine .i (sp_neq (hlc rfl) Has.cst) ?_
 refine .dn fun a5 g W5 y5 zz5 hk hg hV hR hP => ?_
 obtain ⟨e6, -, -, -⟩ := hV
 replace e1 := ft hR e1
 replace D_cn0 := D_cn0.ext hk
 replace D_ci0 := D_ci0.ext hk
 replace e6 := e6.q
 replace own_b1_2 := own_b1_2.ext hk
 replace kw := kw.x hk
 clear hR hk hg hP
 refine zn (hK4 _ _ ?_)
 refine zc e6 (fun hc => ?_) (fun hc => ?_)
 ·
  have hk : x.k ≠ 1 := by simp at hc; omega
  have hf : boolE x = 10 := by rw [boolE, if_pos hk]
  have hv2 : boolV x = false := by rw [boolV, hf]; rfl
  refine zq fun K6 hK6 => ?_
  refine rg mixed y5 zz5 ?_
  refine .ac ?_
  refine .ac ?_
  refine .dn fun a7 g W7 y7 zz7 hk hg hV hR hP => ?_
  obtain ⟨e3, e2, -⟩ := hV
  replace D_cn0 := D_cn0.ext hk
  replace D_ci0 := D_ci0.ext hk
  replace e2 := e2.q
  replace e3 := e3.q
  replace own_b1_2 := own_b1_2.ext hk
  replace kw := kw.x hk
  clear hR hk hg hP
  refine zn (hK6 _ _ ?_)
  refine wp_ret ?_
  refine ret2 rfl zz7 e2 e3 ⟨_, rfl, kw, ?_⟩
  rw [hf, hv2]
 have hk : ¬ x.k ≠ 1 := by simp at hc; omega
 have hf : boolE x = 0 := by rw [boolE, if_neg hk]
 have hv2 : boolV x = (x.n == 1) := by rw [boolV, if_pos hf]
 refine wp_skip (hK3 _ _ ?_)
 refine zq fun K8 hK8 => ?_
 refine rg mixed y5 zz5 ?_
 refine .i (fo 1 (hbs rfl e1) Try.underlying33 rfl sz2 rfl) ?_
 refine .i (lo1 (hlc rfl) own_b1_2 trivial agg2 sz2 rfl) ?_
 refine .i (sp_eql (hlc rfl) Has.cst) ?_
 refine .al rfl ?_
 refine .ac ?_
 refine .dn fun a9 g W9 y9 zz9 hk hg hV hR hP => ?_
 obtain ⟨e3, e2, -, -, -, -⟩ := hV
 replace D_cn0 := D_cn0.ext hk
 replace D_ci0 := D_ci0.ext hk
 replace e2 := e2.q
 replace e3 := e3.q
 replace own_b1_2 := own_b1_2.ext hk
 replace kw := kw.x hk
 clear hR hk hg hP
 refine zn (hK8 _ _ ?_)
 refine wp_ret ?_
 refine ret2 rfl zz9 e2 e3 ⟨_, rfl, kw, ?_⟩
 rw [hf, hv2]
set_option maxRecDepth 100000 in
theorem takeB_ok (x : V) (A : As) (e : Int) (hA : AB 1000000 A) (hx : x.wt ≤ 1073741824) (hxt : x.t.size ≤ maxLen) (name : ByteArray) (fi : FuncId) (cb : Array Value) (ce : V → Int) (fv : V → Bool) (w : World) (S : BSet) (cn ci : Value) (bo bm : Nat) (hS : ∀ b o, S b o → Cln o) (hM : ∀ b ∈ [bo, bm], ∀ o, ¬ S b o) (hne : bo ≠ bm) (hv : Rd w S (strsD x.ns) cn) (hu : Rd w S (valsD x.xs) ci) (own_bo : Own w bo [.int .u8 x.k, .int .i64 x.n, .string x.t, cn, ci, .map (some bm), .int .i64 (e)] 74) (own_bm : OwnM w bm A) (ef : Enters Try.prog fi) (hf : ∀ W, Keeps (fun k => k ∉ [bo, bm]) w W → ∀ (y : V) (v : Value), y.wt ≤ 1073741824 → Rd W (Fr w) y.d v → Calls Try.prog fi (#[v] ++ cb) W (Ret W fun r _ => r = .tuple #[.bool (fv y), .int .i64 (ce y)])) : Calls Try.prog 106 #[.pointer (some ⟨bo, 0, none⟩), .string name, .func (.func fi) #[] cb] w (RetL w [bo, bm] fun u W => u = .bool (if tkB x e name ce then fv (getV x name) else false) ∧ Own W bo [.int .u8 x.k, .int .i64 x.n, .string x.t, cn, ci, .map (some bm), .int .i64 (tkE x e name ce)] 74 ∧ OwnM W bm (tkA x A e name ce)) := by
 have hwx := wt_eq x
 have hwl := wts_len x.xs
 have hwn := wtN_len x.ns
 obtain ⟨cna, cnc, ev, D_cn⟩ := rdS_out (rd_argM (M := [bo, bm]) hv hM)
 subst ev
 obtain ⟨cia, cic, ev, D_ci⟩ := rdVs_out (rd_argM (M := [bo, bm]) hu hM)
 subst ev
 refine enter Try.func106 rfl Try.ntmps106 (lbr rfl) fun a0 y0 zz0 harg => ?_
 have e0 : sl a0 0 = (.pointer (some ⟨bo, 0, none⟩)) := harg 0 (lbr rfl)
 have e1 : sl a0 1 = (.string (name)) := harg 1 (lbr rfl)
 have e2 : sl a0 2 = (.func (.func fi) #[] cb) := harg 2 (lbr rfl)
 have kw := Keeps.refl (fun k => k ∉ [bo, bm]) w
 clear harg
 refine zq fun K1 hK1 => ?_
 refine rg mixed y0 zz0 ?_
 refine .ac ?_
 refine .dn fun a2 g W2 y2 zz2 hk hg hV hR hP => ?_
 obtain ⟨-, -⟩ := hV
 replace e0 := ft hR e0
 replace e1 := ft hR e1
 replace e2 := ft hR e2
 replace D_cn := D_cn.ext hk
 replace D_ci := D_ci.ext hk
 replace own_bo := own_bo.ext hk
 replace own_bm := own_bm.ext hk
 replace kw := kw.x hk
 clear hR hk hg hP
 refine zn (hK1 _ _ ?_)
 refine zq fun K3 hK3 => ?_
 refine rg mixed y2 zz2 ?_
 refine .ac ?_
 refine .dn fun a4 g W4 y4 zz4 hk hg hV hR hP => ?_
 obtain ⟨e7, -⟩ := hV
 replace e0 := ft hR e0
 replace e1 := ft hR e1
 replace e2 := ft hR e2
 replace D_cn := D_cn.ext hk
 replace D_ci := D_ci.ext hk
 replace e7 := e7.q
 replace own_bo := own_bo.ext hk
 replace own_bm := own_bm.ext hk
 replace kw := kw.x hk
 clear hR hk hg hP
 refine zn (hK3 _ _ ?_)
 refine zq fun K5 hK5 => ?_
 refine zq fun K6 hK6 => ?_
 refine rg mixed y4 zz4 ?_
 refine .mb rfl e0 ?_
 refine .i (v := (.int .i64 (errK x.k e))) (sp_call1 (φ1 := Is (.pointer (some ⟨bo, 0, none⟩))) ent24 (hlc rfl) (fun g u1 W hk hgk h1 => by have h1 : u1 = _ := h1; subst u1; exact Err_ok _ _ _ _ _ _ _ W _ (own_bo.ext hk))) ?_
 refine .i (sp_neq (hlc rfl) Has.cst) ?_
 refine .dn fun a7 g W7 y7 zz7 hk hg hV hR hP => ?_
 obtain ⟨e14, -, -, -⟩ := hV
 replace e0 := ft hR e0
 replace e1 := ft hR e1
 replace e2 := ft hR e2
 replace e7 := ft hR e7
 replace D_cn := D_cn.ext hk
 replace D_ci := D_ci.ext hk
 replace e14 := e14.q
 replace own_bo := own_bo.ext hk
 replace own_bm := own_bm.ext hk
 replace kw := kw.x hk
 clear hR hk hg hP
 refine zn (hK6 _ _ ?_)
 refine zc e14 (fun hc => ?_) (fun hc => ?_)
 ·
  have hE : errK x.k e ≠ 0 := by simpa using hc
  have h1 : tkE x e name ce = e := by rw [tkE, if_pos hE]
  have h2 : tkB x e name ce = false := by simp [tkB, hE]
  have h3 : tkA x A e name ce = A := by rw [tkA, h2]; rfl
  refine zq fun K8 hK8 => ?_
  refine rg mixed y7 zz7 ?_
  refine .mb rfl e7 ?_
  refine .al rfl ?_
  refine .dn fun a9 g W9 y9 zz9 hk hg hV hR hP => ?_
  obtain ⟨e6, -, -⟩ := hV
  replace D_cn := D_cn.ext hk
  replace D_ci := D_ci.ext hk
  replace e6 := e6.q
  replace own_bo := own_bo.ext hk
  replace own_bm := own_bm.ext hk
  replace kw := kw.x hk
  clear hR hk hg hP
  refine zn (hK8 _ _ ?_)
  refine wp_ret ?_
  refine ret1 rfl zz9 e6 ⟨_, rfl, kw, ?_⟩
  rw [h1, h3, h2]
  exact ⟨rfl, own_bo, own_bm⟩
 have hE : errK x.k e = 0 := by simpa using hc
 have he0 := (errK_zero hE).1
 refine wp_skip (hK5 _ _ ?_)
 refine zq fun K10 hK10 => ?_
 refine rg mixed y7 zz7 ?_
 refine .mb rfl e0 ?_
 refine .i (sp_nilP (hlc rfl)) ?_
 refine .i (fo 0 (hlc rfl) Try.underlying74 rfl sz33 rfl) ?_
 refine .i (v := (.agg #[(.int .u8 (x.k)), (.int .i64 (x.n)), (.string (x.t)), (.slice cna (x.ns.length) cnc), (.slice cia (x.xs.length) cic)])) (loA (hlc rfl) own_bo trivial agg33 sz33 rfl rfl) ?_
 refine .mb rfl e1 ?_
 refine .op (φ := IsT (IsD (Fr W7) (V.d (getV (x) name))) (Is (.bool (getB (x) name)))) (st_t (st_d sub_all) (st_is _)) (sp_call2 (φ1 := IsD (SA w S [bo, bm]) (V.d (x))) (φ2 := Is (.string (name))) ent101 ((hlc rfl).dat (rdV_in (x := x) hxt D_cn D_ci : Rd W7 (SA w S [bo, bm]) (V.d (x)) _) sub_all) (hlc rfl) (fun g u1 u2 W hk hgk h1 h2 => by have h2 : u2 = _ := h2; subst u2; exact (Get_ok (x) (name) (by omega) W _ _ (fun b o h => sa_cln hS b o h.1) h1).mono (fun _ _ ⟨v, h1, h2, r1, h3, h4⟩ => ⟨v, h1, h2, r1, _, h3, fresh_d hk hgk h4, rfl⟩))) ?_
 refine .op (φ := IsT (IsD (Fr W7) (V.d (getV (x) name))) (Is (.bool (getB (x) name)))) (st_t (st_d sub_all) (st_is _)) (sp_move (hlc rfl)) ?_
 refine .da (X := Fr W7) (e := V.d (getV (x) name)) (sp_ext2 (hlc rfl) rfl) ?_
 refine .i (v := (.bool (getB (x) name))) (sp_ext2' (hlc rfl) rfl) ?_
 refine .alloc z33 ?_
 refine .dn fun a11 g W11 y11 zz11 hk hg hV hR hP => ?_
 obtain ⟨⟨b8_11, e8, hb8, own_b8_11⟩, e24, e23, -, -, -, -, -, -, -, -⟩ := hV
 have lo_b8_11 : w.heap.size ≤ b8_11 := Nat.le_trans kw.size (hg.lo _ _ hb8)
 have ne_bo_b8_11 : bo ≠ b8_11 := Nat.ne_of_lt (Nat.lt_of_lt_of_le own_bo.lt (hg.lo _ _ hb8))
 have ne_bm_b8_11 : bm ≠ b8_11 := Nat.ne_of_lt (Nat.lt_of_lt_of_le own_bm.lt (hg.lo _ _ hb8))
 have own_b8_11 : Own W11 b8_11 [(.int .u8 (0)), (.int .i64 (0)), (.string (⟨#[]⟩)), (.slice none 0 0), (.slice none 0 0)] 33 := own_b8_11
 replace e0 := ft hR e0
 replace e1 := ft hR e1
 replace e2 := ft hR e2
 replace e7 := ft hR e7
 replace D_cn := sa_more D_cn hk [b8_11] (in_cons (hg.lo _ _ hb8) in_nil)
 replace D_ci := sa_more D_ci hk [b8_11] (in_cons (hg.lo _ _ hb8) in_nil)
 obtain ⟨v23_11, ev⟩ : ∃ v, sl a11 23 = v := ⟨_, rfl⟩
 rw [ev] at e23
 have D_v23_11 : Rd W11 (SF w [b8_11, bo, bm]) (V.d (getV (x) name)) v23_11 := fr_end (M := [bo, bm]) e23 kw [b8_11] (in_cons ⟨_, hb8⟩ in_nil) (in_cons own_bo.lt (in_cons own_bm.lt in_nil))
 replace e23 := ev; clear ev
 obtain ⟨cn23_11a, cn23_11c, ci23_11a, ci23_11c, ev, ht_v23_11, D_cn23_11, D_ci23_11⟩ := rdV_out D_v23_11
 subst ev; clear D_v23_11
 replace e24 := e24.q
 replace own_bo := own_bo.ext hk
 replace own_bm := own_bm.ext hk
 replace kw := kw.x hk
 clear hR hk hg hP hb8
 refine tail_store e8 e23 sz33 rfl own_b8_11 (lbr rfl) (all_cons rfl (all_cons rfl (all_cons rfl (all_cons rfl (all_cons rfl all_nil))))) (fun W12 hs own_b8_11 => ?_)
 have own_b8_11 : Own W12 b8_11 [(.int .u8 ((getV (x) name).k)), (.int .i64 ((getV (x) name).n)), (.string ((getV (x) name).t)), (.slice cn23_11a (((getV (x) name).ns).length) cn23_11c), (.slice ci23_11a (((getV (x) name).xs).length) ci23_11c)] 33 := own_b8_11
 replace own_bo := own_store own_bo hs ne_bo_b8_11
 replace own_bm := ownM_store own_bm hs ne_bm_b8_11
 replace D_cn := sa_store D_cn hs (by simp)
 replace D_ci := sa_store D_ci hs (by simp)
 replace D_cn23_11 := sf_store D_cn23_11 hs (by simp)
 replace D_ci23_11 := sf_store D_ci23_11 hs (by simp)
 replace kw := keeps_store kw hs lo_b8_11
 clear hs
 refine tail_assign (v := (.bool (getB (x) name))) e24 (by rw [y11]; exact Nat.le_of_ble_eq_true rfl) (fun a13 y13 zz13 e9 hr => ?_)
 replace y13 := y13.trans y11; replace zz13 := zz13.trans zz11
 replace e0 := (hr 0 (by decide)).trans e0
 replace e1 := (hr 1 (by decide)).trans e1
 replace e2 := (hr 2 (by decide)).trans e2
 replace e7 := (hr 7 (by decide)).trans e7
 replace e8 := (hr 8 (by decide)).trans e8
 replace e23 := (hr 23 (by decide)).trans e23
 replace e24 := (hr 24 (by decide)).trans e24
 clear hr
 refine zn (hK10 _ _ ?_)
 refine zq fun K14 hK14 => ?_
 refine zq fun K15 hK15 => ?_
 refine rg mixed y13 zz13 ?_
 refine .mb rfl e9 ?_
 refine .i (sp_not (hlc rfl)) ?_
 refine .dn fun a16 g W16 y16 zz16 hk hg hV hR hP => ?_
 obtain ⟨e26, -, -⟩ := hV
 replace e0 := ft hR e0
 replace e1 := ft hR e1
 replace e2 := ft hR e2
 replace e7 := ft hR e7
 replace e8 := ft hR e8
 replace D_cn := D_cn.ext hk
 replace D_ci := D_ci.ext hk
 replace D_cn23_11 := D_cn23_11.ext hk
 replace D_ci23_11 := D_ci23_11.ext hk
 replace e26 := e26.q
 replace own_bo := own_bo.ext hk
 replace own_bm := own_bm.ext hk
 replace own_b8_11 := own_b8_11.ext hk
 replace kw := kw.x hk
 clear hR hk hg hP
 refine zn (hK15 _ _ ?_)
 refine zc e26 (fun hc => ?_) (fun hc => ?_)
 ·
  have hg0 : getB x name = false := by simpa using hc
  have h1 : tkE x e name ce = failK x.k e 6 := by rw [tkE, if_neg (by simp [hE]), if_pos hg0, failK, if_pos hE]
  have h2 : tkB x e name ce = false := by simp [tkB, hg0]
  have h3 : tkA x A e name ce = A := by rw [tkA, h2]; rfl
  refine zq fun K17 hK17 => ?_
  refine wp_reg (fun k => k ∉ [bo]) (Ψ := fun W => Own W bo [(.int .u8 (x.k)), (.int .i64 (x.n)), (.string (x.t)), (.slice cna (x.ns.length) cnc), (.slice cia (x.xs.length) cic), (.map (some bm)), (.int .i64 (e))] 74) mixed y16 zz16 stE_own own_bo ?_
  refine .mb rfl e0 ?_
  refine .callL2 (φ1 := Is (.pointer (some ⟨bo, 0, none⟩))) (φ2 := Is (.int .i64 (6))) (φ := Is (.tuple #[])) (Ψ' := fun W => Own W bo [(.int .u8 (x.k)), (.int .i64 (x.n)), (.string (x.t)), (.slice cna (x.ns.length) cnc), (.slice cia (x.xs.length) cic), (.map (some bm)), (.int .i64 (failK x.k e 6))] 74) ent22 (hlc rfl) Has.cst (st_is _) stE_own (fun g u1 u2 W hk hg h1 h2 hP => by have h1 : u1 = _ := h1; subst u1; have h2 : u2 = _ := h2; subst u2; exact (Fail_ok _ _ _ _ _ _ _ (6) W _ hP)) ?_
  refine .dn fun a18 g W18 y18 zz18 hk hg hV hR hP => ?_
  obtain ⟨-, -, -⟩ := hV
  replace e7 := ft hR e7
  replace D_cn := sa_keepL D_cn hk (by simp)
  replace D_ci := sa_keepL D_ci hk (by simp)
  replace D_cn23_11 := sf_keepL D_cn23_11 hk (by simp)
  replace D_ci23_11 := sf_keepL D_ci23_11 hk (by simp)
  replace own_bm := ownM_keepL own_bm hk (by simp [hne.symm])
  replace own_b8_11 := own_keepL own_b8_11 hk (by simp [ne_bo_b8_11.symm])
  have own_bo := hP
  replace own_bo : Own W18 bo [(.int .u8 (x.k)), (.int .i64 (x.n)), (.string (x.t)), (.slice cna (x.ns.length) cnc), (.slice cia (x.xs.length) cic), (.map (some bm)), (.int .i64 (failK x.k e 6))] 74 := own_bo
  replace kw := keeps_L kw hk (in_cons (.inr (by simp)) in_nil)
  clear hR hk hg hP
  refine zn (hK17 _ _ ?_)
  refine zq fun K19 hK19 => ?_
  refine rg mixed y18 zz18 ?_
  refine .mb rfl e7 ?_
  refine .al rfl ?_
  refine .dn fun a20 g W20 y20 zz20 hk hg hV hR hP => ?_
  obtain ⟨e6, -, -⟩ := hV
  replace D_cn := D_cn.ext hk
  replace D_ci := D_ci.ext hk
  replace e6 := e6.q
  replace own_bo := own_bo.ext hk
  replace own_bm := own_bm.ext hk
  replace own_b8_11 := own_b8_11.ext hk
  replace kw := kw.x hk
  clear hR hk hg hP
  refine zn (hK19 _ _ ?_)
  refine wp_ret ?_
  refine ret1 rfl zz20 e6 ⟨_, rfl, kw, ?_⟩
  rw [h1, h3, h2]
  exact ⟨rfl, own_bo, own_bm⟩
 have hg1 : getB x name = true := by simpa using hc
 have hAn := hA name
 have hwg := Nat.le_trans (getV_wt x name) hx
 refine wp_skip (hK14 _ _ ?_)
 refine zq fun K21 hK21 => ?_
 refine rg mixed y16 zz16 ?_
 refine .mb rfl e2 ?_
 refine .i (v := (.agg #[(.int .u8 ((getV (x) name).k)), (.int .i64 ((getV (x) name).n)), (.string ((getV (x) name).t)), (.slice cn23_11a (((getV (x) name).ns).length) cn23_11c), (.slice ci23_11a (((getV (x) name).xs).length) ci23_11c)])) (loA (hbs rfl e8) own_b8_11 trivial agg33 sz33 rfl rfl) ?_
 refine .i (v := (.tuple #[(.bool (fv (getV x name))), (.int .i64 (ce (getV x name)))])) (sp_callF1 ef (hlc rfl) (hlc rfl) (fun g W hk hgk => hf W (kw.trans (.of_ext hk)) _ _ hwg (sf_fr (Rd.ext (rdV_in (x := (getV (x) name)) ht_v23_11 D_cn23_11 D_ci23_11 : Rd W16 (SF w [b8_11, bo, bm]) (V.d ((getV (x) name))) _) hk)))) ?_
 refine .i (sp_move (hlc rfl)) ?_
 refine .i (v := (.bool (fv (getV x name)))) (sp_extT (hlc rfl) rfl) ?_
 refine .i (v := (.int .i64 (ce (getV x name)))) (sp_extT (hlc rfl) rfl) ?_
 refine .al rfl ?_
 refine .al rfl ?_
 refine .dn fun a22 g W22 y22 zz22 hk hg hV hR hP => ?_
 obtain ⟨e11, e10, -, -, -, -, -, -, -⟩ := hV
 replace e0 := ft hR e0
 replace e1 := ft hR e1
 replace e7 := ft hR e7
 replace D_cn := D_cn.ext hk
 replace D_ci := D_ci.ext hk
 replace D_cn23_11 := D_cn23_11.ext hk
 replace D_ci23_11 := D_ci23_11.ext hk
 replace e10 := e10.q
 replace e11 := e11.q
 replace own_bo := own_bo.ext hk
 replace own_bm := own_bm.ext hk
 replace own_b8_11 := own_b8_11.ext hk
 replace kw := kw.x hk
 clear hR hk hg hP
 refine zn (hK21 _ _ ?_)
 refine zq fun K23 hK23 => ?_
 refine zq fun K24 hK24 => ?_
 refine rg mixed y22 zz22 ?_
 refine .mb rfl e11 ?_
 refine .i (sp_neq (hlc rfl) Has.cst) ?_
 refine .dn fun a25 g W25 y25 zz25 hk hg hV hR hP => ?_
 obtain ⟨e37, -, -⟩ := hV
 replace e0 := ft hR e0
 replace e1 := ft hR e1
 replace e7 := ft hR e7
 replace e10 := ft hR e10
 replace e11 := ft hR e11
 replace D_cn := D_cn.ext hk
 replace D_ci := D_ci.ext hk
 replace e37 := e37.q
 replace own_bo := own_bo.ext hk
 replace own_bm := own_bm.ext hk
 replace own_b8_11 := own_b8_11.ext hk
 replace kw := kw.x hk
 clear hR hk hg hP
 refine zn (hK24 _ _ ?_)
 refine zc e37 (fun hc => ?_) (fun hc => ?_)
 ·
  have hce : ce (getV x name) ≠ 0 := by simpa using hc
  have h1 : tkE x e name ce = failK x.k e (ce (getV x name)) := by rw [tkE, if_neg (by simp [hE]), if_neg (by simp [hg1]), failK, if_pos hE]
  have h2 : tkB x e name ce = false := by simp [tkB, hce]
  have h3 : tkA x A e name ce = A := by rw [tkA, h2]; rfl
  refine zq fun K26 hK26 => ?_
  refine wp_reg (fun k => k ∉ [bo]) (Ψ := fun W => Own W bo [(.int .u8 (x.k)), (.int .i64 (x.n)), (.string (x.t)), (.slice cna (x.ns.length) cnc), (.slice cia (x.xs.length) cic), (.map (some bm)), (.int .i64 (e))] 74) mixed y25 zz25 stE_own own_bo ?_
  refine .mb rfl e0 ?_
  refine .mb rfl e11 ?_
  refine .callL2 (φ1 := Is (.pointer (some ⟨bo, 0, none⟩))) (φ2 := Is (.int .i64 (ce (getV x name)))) (φ := Is (.tuple #[])) (Ψ' := fun W => Own W bo [(.int .u8 (x.k)), (.int .i64 (x.n)), (.string (x.t)), (.slice cna (x.ns.length) cnc), (.slice cia (x.xs.length) cic), (.map (some bm)), (.int .i64 (failK x.k e (ce (getV x name))))] 74) ent22 (hlc rfl) (hlc rfl) (st_is _) stE_own (fun g u1 u2 W hk hg h1 h2 hP => by have h1 : u1 = _ := h1; subst u1; have h2 : u2 = _ := h2; subst u2; exact (Fail_ok _ _ _ _ _ _ _ (ce (getV x name)) W _ hP)) ?_
  refine .dn fun a27 g W27 y27 zz27 hk hg hV hR hP => ?_
  obtain ⟨-, -, -, -⟩ := hV
  replace e7 := ft hR e7
  replace D_cn := sa_keepL D_cn hk (by simp)
  replace D_ci := sa_keepL D_ci hk (by simp)
  replace own_bm := ownM_keepL own_bm hk (by simp [hne.symm])
  replace own_b8_11 := own_keepL own_b8_11 hk (by simp [ne_bo_b8_11.symm])
  have own_bo := hP
  replace own_bo : Own W27 bo [(.int .u8 (x.k)), (.int .i64 (x.n)), (.string (x.t)), (.slice cna (x.ns.length) cnc), (.slice cia (x.xs.length) cic), (.map (some bm)), (.int .i64 (failK x.k e (ce (getV x name))))] 74 := own_bo
  replace kw := keeps_L kw hk (in_cons (.inr (by simp)) in_nil)
  clear hR hk hg hP
  refine zn (hK26 _ _ ?_)
  refine zq fun K28 hK28 => ?_
  refine rg mixed y27 zz27 ?_
  refine .mb rfl e7 ?_
  refine .al rfl ?_
  refine .dn fun a29 g W29 y29 zz29 hk hg hV hR hP => ?_
  obtain ⟨e6, -, -⟩ := hV
  replace D_cn := D_cn.ext hk
  replace D_ci := D_ci.ext hk
  replace e6 := e6.q
  replace own_bo := own_bo.ext hk
  replace own_bm := own_bm.ext hk
  replace own_b8_11 := own_b8_11.ext hk
  replace kw := kw.x hk
  clear hR hk hg hP
  refine zn (hK28 _ _ ?_)
  refine wp_ret ?_
  refine ret1 rfl zz29 e6 ⟨_, rfl, kw, ?_⟩
  rw [h1, h3, h2]
  exact ⟨rfl, own_bo, own_bm⟩
 have hce : ce (getV x name) = 0 := by simpa using hc
 have h1 : tkE x e name ce = e := by rw [tkE, if_neg (by simp [hE]), if_neg (by simp [hg1]), hce, he0]
 have h2 : tkB x e name ce = true := by simp [tkB, hE, hg1, hce]
 have h3 : tkA x A e name ce = mset A name (mget A name + 1) := by rw [tkA, h2]; rfl
 refine wp_skip (hK23 _ _ ?_)
 refine zq fun K30 hK30 => ?_
 refine rg mixed y25 zz25 ?_
 refine .mb rfl e0 ?_
 refine .i (sp_nilP (hlc rfl)) ?_
 refine .i (fo 5 (hlc rfl) Try.underlying74 rfl sz72 rfl) ?_
 refine .i (lo1 (hlc rfl) own_bo trivial agg72 sz72 rfl) ?_
 refine .mb rfl e1 ?_
 refine .i (sp_lookup Try.underlying72 Try.underlying9 z3 (hlc rfl) (hlc rfl) own_bm trivial) ?_
 refine .i (sp_add (hlc rfl) Has.cst (i64_in (by omega))) ?_
 refine .dn fun a31 g W31 y31 zz31 hk hg hV hR hP => ?_
 obtain ⟨e48, -, e46, e45, -, -, -, -⟩ := hV
 replace e10 := ft hR e10
 replace D_cn := D_cn.ext hk
 replace D_ci := D_ci.ext hk
 replace e45 := e45.q
 replace e46 := e46.q
 replace e48 := e48.q
 replace own_bo := own_bo.ext hk
 replace own_bm := own_bm.ext hk
 replace own_b8_11 := own_b8_11.ext hk
 replace kw := kw.x hk
 clear hR hk hg hP
 refine tail_updM Try.underlying72 Try.underlying9 e45 e46 e48 own_bm (fun W32 hs own_bm => ?_)
 have own_bm : OwnM W32 bm (mset A name ((mget A name : Int) + (1 : Int))) := own_bm
 replace own_bo := own_store own_bo hs hne
 replace own_b8_11 := own_store own_b8_11 hs ne_bm_b8_11.symm
 replace D_cn := sa_store D_cn hs (by simp)
 replace D_ci := sa_store D_ci hs (by simp)
 replace kw := keeps_storeN kw hs (by simp)
 clear hs
 refine zn (hK30 _ _ ?_)
 refine zq fun K33 hK33 => ?_
 refine rg mixed y31 zz31 ?_
 refine .mb rfl e10 ?_
 refine .al rfl ?_
 refine .dn fun a34 g W34 y34 zz34 hk hg hV hR hP => ?_
 obtain ⟨e6, -, -⟩ := hV
 replace D_cn := D_cn.ext hk
 replace D_ci := D_ci.ext hk
 replace e6 := e6.q
 replace own_bo := own_bo.ext hk
 replace own_bm := own_bm.ext hk
 replace own_b8_11 := own_b8_11.ext hk
 replace kw := kw.x hk
 clear hR hk hg hP
 refine zn (hK33 _ _ ?_)
 refine wp_ret ?_
 refine ret1 rfl zz34 e6 ⟨_, rfl, kw, ?_⟩
 rw [h1, h3, h2]
 exact ⟨rfl, own_bo, own_bm⟩
set_option maxRecDepth 100000 in
theorem Bool_ok (x : V) (A : As) (e : Int) (hA : AB 1000000 A) (hx : x.wt ≤ 1073741824) (hxt : x.t.size ≤ maxLen) (name : ByteArray) (w : World) (S : BSet) (cn ci : Value) (bo bm : Nat) (hS : ∀ b o, S b o → Cln o) (hM : ∀ b ∈ [bo, bm], ∀ o, ¬ S b o) (hne : bo ≠ bm) (hv : Rd w S (strsD x.ns) cn) (hu : Rd w S (valsD x.xs) ci) (own_bo : Own w bo [.int .u8 x.k, .int .i64 x.n, .string x.t, cn, ci, .map (some bm), .int .i64 (e)] 74) (own_bm : OwnM w bm A) : Calls Try.prog 45 #[.pointer (some ⟨bo, 0, none⟩), .string name] w (RetL w [bo, bm] fun u W => u = .bool (if tkB x e name boolE then boolV (getV x name) else false) ∧ Own W bo [.int .u8 x.k, .int .i64 x.n, .string x.t, cn, ci, .map (some bm), .int .i64 (tkE x e name boolE)] 74 ∧ OwnM W bm (tkA x A e name boolE)) := by
 obtain ⟨cna, cnc, ev, D_cn⟩ := rdS_out (rd_argM (M := [bo, bm]) hv hM)
 subst ev
 obtain ⟨cia, cic, ev, D_ci⟩ := rdVs_out (rd_argM (M := [bo, bm]) hu hM)
 subst ev
 refine enter Try.func45 rfl Try.ntmps45 (lbr rfl) fun a0 y0 zz0 harg => ?_
 have e0 : sl a0 0 = (.pointer (some ⟨bo, 0, none⟩)) := harg 0 (lbr rfl)
 have e1 : sl a0 1 = (.string (name)) := harg 1 (lbr rfl)
 have kw := Keeps.refl (fun k => k ∉ [bo, bm]) w
 clear harg
 refine zq fun K1 hK1 => ?_
 refine rg mixed y0 zz0 ?_
 refine .ac ?_
 refine .dn fun a2 g W2 y2 zz2 hk hg hV hR hP => ?_
 obtain ⟨-, -⟩ := hV
 replace e0 := ft hR e0
 replace e1 := ft hR e1
 replace D_cn := D_cn.ext hk
 replace D_ci := D_ci.ext hk
 replace own_bo := own_bo.ext hk
 replace own_bm := own_bm.ext hk
 replace kw := kw.x hk
 clear hR hk hg hP
 refine zn (hK1 _ _ ?_)
 refine zq fun K3 hK3 => ?_
 refine wp_reg (fun k => k ∉ [bo, bm]) (Ψ := fun W => Own W bo [(.int .u8 (x.k)), (.int .i64 (x.n)), (.string (x.t)), (.slice cna (x.ns.length) cnc), (.slice cia (x.xs.length) cic), (.map (some bm)), (.int .i64 (e))] 74 ∧ OwnM W bm (A)) mixed y2 zz2 (stE_and stE_own stE_ownM) ⟨own_bo, own_bm⟩ ?_
 refine .mb rfl e0 ?_
 refine .mb rfl e1 ?_
 refine .callL3 (φ1 := Is (.pointer (some ⟨bo, 0, none⟩))) (φ2 := Is (.string (name))) (φ3 := Is (.func (.func 107) #[] #[])) (φ := Is (.bool (if tkB x e name boolE then boolV (getV x name) else false))) (Ψ' := fun W => Own W bo [(.int .u8 (x.k)), (.int .i64 (x.n)), (.string (x.t)), (.slice cna (x.ns.length) cnc), (.slice cia (x.xs.length) cic), (.map (some bm)), (.int .i64 (tkE x e name boolE))] 74 ∧ OwnM W bm (tkA x A e name boolE)) ent106 (hlc rfl) (hlc rfl) Has.fn (st_is _) (stE_and stE_own stE_ownM) (fun g u1 u2 u3 W hk hg h1 h2 h3 hP => by have h1 : u1 = _ := h1; subst u1; have h2 : u2 = _ := h2; subst u2; have h3 : u3 = _ := h3; subst u3; exact (takeB_ok (x) (A) (e) hA hx hxt name 107 #[] boolE boolV W _ _ _ _ _ (sa_cln hS) (sa_notin (by simp)) hne (sa_keepL D_cn hk (by simp)) (sa_keepL D_ci hk (by simp)) hP.1 hP.2 ent107 (fun W2 hk2 y v hy hv2 => bool1_ok y (by obtain ⟨_, _, _, _, _, h, _⟩ := rdV_out hv2; exact h) W2 _ v hv2))) ?_
 refine .al rfl ?_
 refine .dn fun a4 g W4 y4 zz4 hk hg hV hR hP => ?_
 obtain ⟨e4, -, -, -, -⟩ := hV
 replace e4 := e4.q
 replace D_cn := sa_keepL D_cn hk (by simp)
 replace D_ci := sa_keepL D_ci hk (by simp)
 obtain ⟨own_bo, own_bm⟩ := hP
 replace own_bo : Own W4 bo [(.int .u8 (x.k)), (.int .i64 (x.n)), (.string (x.t)), (.slice cna (x.ns.length) cnc), (.slice cia (x.xs.length) cic), (.map (some bm)), (.int .i64 (tkE x e name boolE))] 74 := own_bo
 replace own_bm : OwnM W4 bm (tkA x A e name boolE) := own_bm
 replace kw := keeps_L kw hk (in_cons (.inr (by simp)) (in_cons (.inr (by simp)) in_nil))
 clear hR hk hg
 refine zn (hK3 _ _ ?_)
 refine wp_ret ?_
 refine ret1 rfl zz4 e4 ⟨_, rfl, kw, ?_⟩
 exact ⟨rfl, own_bo, own_bm⟩
set_option maxRecDepth 100000 in
theorem list1_ok (x : V) (most : Int) (w : World) (S : BSet) (v : Value) (bq : Nat) (hv : Rd w S x.d v) (own_bq : Own w bq [.int .i64 most] 3) : Calls Try.prog 109 #[v, .pointer (some ⟨bq, 0, none⟩)] w (Ret w fun r W => ∃ r1, r = .tuple #[r1, .int .i64 (listE most x)] ∧ Rd W (Ar w S) (valsD (listV most x)) r1) := by
 obtain ⟨cn0a, cn0c, ci0a, ci0c, ev, ht0, D_cn0, D_ci0⟩ := rdV_out (rd_arg hv)
 subst ev
 refine enter Try.func109 rfl Try.ntmps109 (lbr rfl) fun a0 y0 zz0 harg => ?_
 have e0 : sl a0 0 = (.agg #[(.int .u8 (x.k)), (.int .i64 (x.n)), (.string (x.t)), (.slice cn0a (x.ns.length) cn0c), (.slice ci0a (x.xs.length) ci0c)]) := harg 0 (lbr rfl)
 have e1 : sl a0 1 = (.pointer (some ⟨bq, 0, none⟩)) := harg 1 (lbr rfl)
 have kw := Keeps.refl All w
 clear harg
 refine zq fun K1 hK1 => ?_
 refine rg mixed y0 zz0 ?_
 refine .boxOp (v := (.agg #[(.int .u8 (x.k)), (.int .i64 (x.n)), (.string (x.t)), (.slice cn0a (x.ns.length) cn0c), (.slice ci0a (x.xs.length) ci0c)])) (hbs rfl e0) ?_
 refine .ac ?_
 refine .ac ?_
 refine .dn fun a2 g W2 y2 zz2 hk hg hV hR hP => ?_
 obtain ⟨-, -, ⟨b2_2, e2, hb2, own_b2_2⟩, -⟩ := hV
 have lo_b2_2 : w.heap.size ≤ b2_2 := Nat.le_trans kw.size (hg.lo _ _ hb2)
 have ne_bq_b2_2 : bq ≠ b2_2 := Nat.ne_of_lt (Nat.lt_of_lt_of_le own_bq.lt (hg.lo _ _ hb2))
 have own_b2_2 : Own W2 b2_2 [(.int .u8 (x.k)), (.int .i64 (x.n)), (.string (x.t)), (.slice cn0a (x.ns.length) cn0c), (.slice ci0a (x.xs.length) ci0c)] 33 := own_b2_2
 replace e1 := ft hR e1
 replace D_cn0 := sa_more D_cn0 hk [b2_2] (in_cons (hg.lo _ _ hb2) in_nil)
 replace D_ci0 := sa_more D_ci0 hk [b2_2] (in_cons (hg.lo _ _ hb2) in_nil)
 replace own_bq := own_bq.ext hk
 replace kw := kw.x hk
 clear hR hk hg hP hb2
 refine zn (hK1 _ _ ?_)
 refine zq fun K3 hK3 => ?_
 refine rg mixed y2 zz2 ?_
 refine .i (v := (.agg #[(.int .u8 (x.k)), (.int .i64 (x.n)), (.string (x.t)), (.slice cn0a (x.ns.length) cn0c), (.slice ci0a (x.xs.length) ci0c)])) (loA (hbs rfl e2) own_b2_2 trivial agg33 sz33 rfl rfl) ?_
 refine .i (lo1 (hbs rfl e1) own_bq trivial agg3 sz3 rfl) ?_
 refine .op (φ := IsT (IsD (SA w S [b2_2]) (valsD (itemsV (x) most))) (Is (.int .i64 (itemsE (x) most)))) (st_t (st_d sub_all) (st_is _)) (sp_call2 (φ1 := IsD (SA w S [b2_2]) (V.d (x))) (φ2 := Is (.int .i64 (most))) ent100 ((hlc rfl).dat (rdV_in (x := x) ht0 D_cn0 D_ci0 : Rd W2 (SA w S [b2_2]) (V.d (x)) _) sub_all) (hlc rfl) (fun g u1 u2 W hk hgk h1 h2 => by have h2 : u2 = _ := h2; subst u2; exact (items_ok (x) (most) W _ _ h1).mono (fun _ _ ⟨v, h1, h2, r1, h3, h4⟩ => ⟨v, h1, h2, r1, _, h3, rd_ar_sa kw (in_cons own_b2_2.lt in_nil) hk hgk h4, rfl⟩))) ?_
 refine .da (X := SA w S [b2_2]) (e := valsD (itemsV (x) most)) (sp_ext2 (hlc rfl) rfl) ?_
 refine .i (v := (.int .i64 (itemsE (x) most))) (sp_ext2' (hlc rfl) rfl) ?_
 refine .da (X := SA w S [b2_2]) (e := valsD (itemsV (x) most)) (sp_assign (hlc rfl)) ?_
 refine .al rfl ?_
 refine .dn fun a4 g W4 y4 zz4 hk hg hV hR hP => ?_
 obtain ⟨e4, e3, -, -, -, -, -, -⟩ := hV
 replace D_cn0 := D_cn0.ext hk
 replace D_ci0 := D_ci0.ext hk
 obtain ⟨v3_4, ev⟩ : ∃ v, sl a4 3 = v := ⟨_, rfl⟩
 rw [ev] at e3
 have D_v3_4 : Rd W4 (SA w S [b2_2]) (valsD (itemsV (x) most)) v3_4 := sa_end e3 hk [] in_nil
 replace e3 := ev; clear ev
 obtain ⟨v3_4a, v3_4c, ev, D2⟩ := rdVs_out D_v3_4
 subst ev; replace D_v3_4 := D2; clear D2
 replace e4 := e4.q
 replace own_bq := own_bq.ext hk
 replace own_b2_2 := own_b2_2.ext hk
 replace kw := kw.x hk
 clear hR hk hg hP
 refine zn (hK3 _ _ ?_)
 refine wp_ret ?_
 refine ret2 rfl zz4 e3 e4 ⟨_, rfl, kw, ?_⟩
 exact ⟨_, rfl, sa_ar D_v3_4⟩
set_option maxRecDepth 100000 in
theorem takeL_ok (x : V) (A : As) (e : Int) (hA : AB 1000000 A) (hx : x.wt ≤ 1073741824) (hxt : x.t.size ≤ maxLen) (name : ByteArray) (fi : FuncId) (cb : Array Value) (ce : V → Int) (fv : V → List V) (w : World) (S : BSet) (cn ci : Value) (bo bm : Nat) (hS : ∀ b o, S b o → Cln o) (hM : ∀ b ∈ [bo, bm], ∀ o, ¬ S b o) (hne : bo ≠ bm) (hv : Rd w S (strsD x.ns) cn) (hu : Rd w S (valsD x.xs) ci) (own_bo : Own w bo [.int .u8 x.k, .int .i64 x.n, .string x.t, cn, ci, .map (some bm), .int .i64 (e)] 74) (own_bm : OwnM w bm A) (ef : Enters Try.prog fi) (hf : ∀ W, Keeps (fun k => k ∉ [bo, bm]) w W → ∀ (Z : BSet) (y : V) (v : Value), y.wt ≤ 1073741824 → Rd W Z y.d v → Calls Try.prog fi (#[v] ++ cb) W (Ret W fun r W2 => ∃ r1, r = .tuple #[r1, .int .i64 (ce y)] ∧ Rd W2 (Ar W Z) (valsD (fv y)) r1)) : Calls Try.prog 108 #[.pointer (some ⟨bo, 0, none⟩), .string name, .func (.func fi) #[] cb] w (RetL w [bo, bm] fun u W => Rd W (Fr w) (valsD (if tkB x e name ce then fv (getV x name) else [])) u ∧ Own W bo [.int .u8 x.k, .int .i64 x.n, .string x.t, cn, ci, .map (some bm), .int .i64 (tkE x e name ce)] 74 ∧ OwnM W bm (tkA x A e name ce)) := by
 have hwx := wt_eq x
 have hwl := wts_len x.xs
 have hwn := wtN_len x.ns
 obtain ⟨cna, cnc, ev, D_cn⟩ := rdS_out (rd_argM (M := [bo, bm]) hv hM)
 subst ev
 obtain ⟨cia, cic, ev, D_ci⟩ := rdVs_out (rd_argM (M := [bo, bm]) hu hM)
 subst ev
 refine enter Try.func108 rfl Try.ntmps108 (lbr rfl) fun a0 y0 zz0 harg => ?_
 have e0 : sl a0 0 = (.pointer (some ⟨bo, 0, none⟩)) := harg 0 (lbr rfl)
 have e1 : sl a0 1 = (.string (name)) := harg 1 (lbr rfl)
 have e2 : sl a0 2 = (.func (.func fi) #[] cb) := harg 2 (lbr rfl)
 have kw := Keeps.refl (fun k => k ∉ [bo, bm]) w
 clear harg
 refine zq fun K1 hK1 => ?_
 refine rg mixed y0 zz0 ?_
 refine .ac ?_
 refine .dn fun a2 g W2 y2 zz2 hk hg hV hR hP => ?_
 obtain ⟨-, -⟩ := hV
 replace e0 := ft hR e0
 replace e1 := ft hR e1
 replace e2 := ft hR e2
 replace D_cn := D_cn.ext hk
 replace D_ci := D_ci.ext hk
 replace own_bo := own_bo.ext hk
 replace own_bm := own_bm.ext hk
 replace kw := kw.x hk
 clear hR hk hg hP
 refine zn (hK1 _ _ ?_)
 refine zq fun K3 hK3 => ?_
 refine rg mixed y2 zz2 ?_
 refine .ac ?_
 refine .dn fun a4 g W4 y4 zz4 hk hg hV hR hP => ?_
 obtain ⟨e7, -⟩ := hV
 replace e0 := ft hR e0
 replace e1 := ft hR e1
 replace e2 := ft hR e2
 replace D_cn := D_cn.ext hk
 replace D_ci := D_ci.ext hk
 replace e7 := e7.q
 replace own_bo := own_bo.ext hk
 replace own_bm := own_bm.ext hk
 replace kw := kw.x hk
 clear hR hk hg hP
 refine zn (hK3 _ _ ?_)
 refine zq fun K5 hK5 => ?_
 refine zq fun K6 hK6 => ?_
 refine rg mixed y4 zz4 ?_
 refine .mb rfl e0 ?_
 refine .i (v := (.int .i64 (errK x.k e))) (sp_call1 (φ1 := Is (.pointer (some ⟨bo, 0, none⟩))) ent24 (hlc rfl) (fun g u1 W hk hgk h1 => by have h1 : u1 = _ := h1; subst u1; exact Err_ok _ _ _ _ _ _ _ W _ (own_bo.ext hk))) ?_
 refine .i (sp_neq (hlc rfl) Has.cst) ?_
 refine .dn fun a7 g W7 y7 zz7 hk hg hV hR hP => ?_
 obtain ⟨e14, -, -, -⟩ := hV
 replace e0 := ft hR e0
 replace e1 := ft hR e1
 replace e2 := ft hR e2
 replace e7 := ft hR e7
 replace D_cn := D_cn.ext hk
 replace D_ci := D_ci.ext hk
 replace e14 := e14.q
 replace own_bo := own_bo.ext hk
 replace own_bm := own_bm.ext hk
 replace kw := kw.x hk
 clear hR hk hg hP
 refine zn (hK6 _ _ ?_)
 refine zc e14 (fun hc => ?_) (fun hc => ?_)
 ·
  have hE : errK x.k e ≠ 0 := by simpa using hc
  have h1 : tkE x e name ce = e := by rw [tkE, if_pos hE]
  have h2 : tkB x e name ce = false := by simp [tkB, hE]
  have h3 : tkA x A e name ce = A := by rw [tkA, h2]; rfl
  refine zq fun K8 hK8 => ?_
  refine rg mixed y7 zz7 ?_
  refine .mb rfl e7 ?_
  refine .al rfl ?_
  refine .dn fun a9 g W9 y9 zz9 hk hg hV hR hP => ?_
  obtain ⟨e6, -, -⟩ := hV
  replace D_cn := D_cn.ext hk
  replace D_ci := D_ci.ext hk
  replace e6 := e6.q
  replace own_bo := own_bo.ext hk
  replace own_bm := own_bm.ext hk
  replace kw := kw.x hk
  clear hR hk hg hP
  refine zn (hK8 _ _ ?_)
  refine wp_ret ?_
  refine ret1 rfl zz9 e6 ⟨_, rfl, kw, ?_⟩
  rw [h1, h3, h2]
  exact ⟨rd_nil _, own_bo, own_bm⟩
 have hE : errK x.k e = 0 := by simpa using hc
 have he0 := (errK_zero hE).1
 refine wp_skip (hK5 _ _ ?_)
 refine zq fun K10 hK10 => ?_
 refine rg mixed y7 zz7 ?_
 refine .mb rfl e0 ?_
 refine .i (sp_nilP (hlc rfl)) ?_
 refine .i (fo 0 (hlc rfl) Try.underlying74 rfl sz33 rfl) ?_
 refine .i (v := (.agg #[(.int .u8 (x.k)), (.int .i64 (x.n)), (.string (x.t)), (.slice cna (x.ns.length) cnc), (.slice cia (x.xs.length) cic)])) (loA (hlc rfl) own_bo trivial agg33 sz33 rfl rfl) ?_
 refine .mb rfl e1 ?_
 refine .op (φ := IsT (IsD (Fr W7) (V.d (getV (x) name))) (Is (.bool (getB (x) name)))) (st_t (st_d sub_all) (st_is _)) (sp_call2 (φ1 := IsD (SA w S [bo, bm]) (V.d (x))) (φ2 := Is (.string (name))) ent101 ((hlc rfl).dat (rdV_in (x := x) hxt D_cn D_ci : Rd W7 (SA w S [bo, bm]) (V.d (x)) _) sub_all) (hlc rfl) (fun g u1 u2 W hk hgk h1 h2 => by have h2 : u2 = _ := h2; subst u2; exact (Get_ok (x) (name) (by omega) W _ _ (fun b o h => sa_cln hS b o h.1) h1).mono (fun _ _ ⟨v, h1, h2, r1, h3, h4⟩ => ⟨v, h1, h2, r1, _, h3, fresh_d hk hgk h4, rfl⟩))) ?_
 refine .op (φ := IsT (IsD (Fr W7) (V.d (getV (x) name))) (Is (.bool (getB (x) name)))) (st_t (st_d sub_all) (st_is _)) (sp_move (hlc rfl)) ?_
 refine .da (X := Fr W7) (e := V.d (getV (x) name)) (sp_ext2 (hlc rfl) rfl) ?_
 refine .i (v := (.bool (getB (x) name))) (sp_ext2' (hlc rfl) rfl) ?_
 refine .alloc z33 ?_
 refine .dn fun a11 g W11 y11 zz11 hk hg hV hR hP => ?_
 obtain ⟨⟨b8_11, e8, hb8, own_b8_11⟩, e24, e23, -, -, -, -, -, -, -, -⟩ := hV
 have lo_b8_11 : w.heap.size ≤ b8_11 := Nat.le_trans kw.size (hg.lo _ _ hb8)
 have ne_bo_b8_11 : bo ≠ b8_11 := Nat.ne_of_lt (Nat.lt_of_lt_of_le own_bo.lt (hg.lo _ _ hb8))
 have ne_bm_b8_11 : bm ≠ b8_11 := Nat.ne_of_lt (Nat.lt_of_lt_of_le own_bm.lt (hg.lo _ _ hb8))
 have own_b8_11 : Own W11 b8_11 [(.int .u8 (0)), (.int .i64 (0)), (.string (⟨#[]⟩)), (.slice none 0 0), (.slice none 0 0)] 33 := own_b8_11
 replace e0 := ft hR e0
 replace e1 := ft hR e1
 replace e2 := ft hR e2
 replace e7 := ft hR e7
 replace D_cn := sa_more D_cn hk [b8_11] (in_cons (hg.lo _ _ hb8) in_nil)
 replace D_ci := sa_more D_ci hk [b8_11] (in_cons (hg.lo _ _ hb8) in_nil)
 obtain ⟨v23_11, ev⟩ : ∃ v, sl a11 23 = v := ⟨_, rfl⟩
 rw [ev] at e23
 have D_v23_11 : Rd W11 (SF w [b8_11, bo, bm]) (V.d (getV (x) name)) v23_11 := fr_end (M := [bo, bm]) e23 kw [b8_11] (in_cons ⟨_, hb8⟩ in_nil) (in_cons own_bo.lt (in_cons own_bm.lt in_nil))
 replace e23 := ev; clear ev
 obtain ⟨cn23_11a, cn23_11c, ci23_11a, ci23_11c, ev, ht_v23_11, D_cn23_11, D_ci23_11⟩ := rdV_out D_v23_11
 subst ev; clear D_v23_11
 replace e24 := e24.q
 replace own_bo := own_bo.ext hk
 replace own_bm := own_bm.ext hk
 replace kw := kw.x hk
 clear hR hk hg hP hb8
 refine tail_store e8 e23 sz33 rfl own_b8_11 (lbr rfl) (all_cons rfl (all_cons rfl (all_cons rfl (all_cons rfl (all_cons rfl all_nil))))) (fun W12 hs own_b8_11 => ?_)
 have own_b8_11 : Own W12 b8_11 [(.int .u8 ((getV (x) name).k)), (.int .i64 ((getV (x) name).n)), (.string ((getV (x) name).t)), (.slice cn23_11a (((getV (x) name).ns).length) cn23_11c), (.slice ci23_11a (((getV (x) name).xs).length) ci23_11c)] 33 := own_b8_11
 replace own_bo := own_store own_bo hs ne_bo_b8_11
 replace own_bm := ownM_store own_bm hs ne_bm_b8_11
 replace D_cn := sa_store D_cn hs (by simp)
 replace D_ci := sa_store D_ci hs (by simp)
 replace D_cn23_11 := sf_store D_cn23_11 hs (by simp)
 replace D_ci23_11 := sf_store D_ci23_11 hs (by simp)
 replace kw := keeps_store kw hs lo_b8_11
 clear hs
 refine tail_assign (v := (.bool (getB (x) name))) e24 (by rw [y11]; exact Nat.le_of_ble_eq_true rfl) (fun a13 y13 zz13 e9 hr => ?_)
 replace y13 := y13.trans y11; replace zz13 := zz13.trans zz11
 replace e0 := (hr 0 (by decide)).trans e0
 replace e1 := (hr 1 (by decide)).trans e1
 replace e2 := (hr 2 (by decide)).trans e2
 replace e7 := (hr 7 (by decide)).trans e7
 replace e8 := (hr 8 (by decide)).trans e8
 replace e23 := (hr 23 (by decide)).trans e23
 replace e24 := (hr 24 (by decide)).trans e24
 clear hr
 refine zn (hK10 _ _ ?_)
 refine zq fun K14 hK14 => ?_
 refine zq fun K15 hK15 => ?_
 refine rg mixed y13 zz13 ?_
 refine .mb rfl e9 ?_
 refine .i (sp_not (hlc rfl)) ?_
 refine .dn fun a16 g W16 y16 zz16 hk hg hV hR hP => ?_
 obtain ⟨e26, -, -⟩ := hV
 replace e0 := ft hR e0
 replace e1 := ft hR e1
 replace e2 := ft hR e2
 replace e7 := ft hR e7
 replace e8 := ft hR e8
 replace D_cn := D_cn.ext hk
 replace D_ci := D_ci.ext hk
 replace D_cn23_11 := D_cn23_11.ext hk
 replace D_ci23_11 := D_ci23_11.ext hk
 replace e26 := e26.q
 replace own_bo := own_bo.ext hk
 replace own_bm := own_bm.ext hk
 replace own_b8_11 := own_b8_11.ext hk
 replace kw := kw.x hk
 clear hR hk hg hP
 refine zn (hK15 _ _ ?_)
 refine zc e26 (fun hc => ?_) (fun hc => ?_)
 ·
  have hg0 : getB x name = false := by simpa using hc
  have h1 : tkE x e name ce = failK x.k e 6 := by rw [tkE, if_neg (by simp [hE]), if_pos hg0, failK, if_pos hE]
  have h2 : tkB x e name ce = false := by simp [tkB, hg0]
  have h3 : tkA x A e name ce = A := by rw [tkA, h2]; rfl
  refine zq fun K17 hK17 => ?_
  refine wp_reg (fun k => k ∉ [bo]) (Ψ := fun W => Own W bo [(.int .u8 (x.k)), (.int .i64 (x.n)), (.string (x.t)), (.slice cna (x.ns.length) cnc), (.slice cia (x.xs.length) cic), (.map (some bm)), (.int .i64 (e))] 74) mixed y16 zz16 stE_own own_bo ?_
  refine .mb rfl e0 ?_
  refine .callL2 (φ1 := Is (.pointer (some ⟨bo, 0, none⟩))) (φ2 := Is (.int .i64 (6))) (φ := Is (.tuple #[])) (Ψ' := fun W => Own W bo [(.int .u8 (x.k)), (.int .i64 (x.n)), (.string (x.t)), (.slice cna (x.ns.length) cnc), (.slice cia (x.xs.length) cic), (.map (some bm)), (.int .i64 (failK x.k e 6))] 74) ent22 (hlc rfl) Has.cst (st_is _) stE_own (fun g u1 u2 W hk hg h1 h2 hP => by have h1 : u1 = _ := h1; subst u1; have h2 : u2 = _ := h2; subst u2; exact (Fail_ok _ _ _ _ _ _ _ (6) W _ hP)) ?_
  refine .dn fun a18 g W18 y18 zz18 hk hg hV hR hP => ?_
  obtain ⟨-, -, -⟩ := hV
  replace e7 := ft hR e7
  replace D_cn := sa_keepL D_cn hk (by simp)
  replace D_ci := sa_keepL D_ci hk (by simp)
  replace D_cn23_11 := sf_keepL D_cn23_11 hk (by simp)
  replace D_ci23_11 := sf_keepL D_ci23_11 hk (by simp)
  replace own_bm := ownM_keepL own_bm hk (by simp [hne.symm])
  replace own_b8_11 := own_keepL own_b8_11 hk (by simp [ne_bo_b8_11.symm])
  have own_bo := hP
  replace own_bo : Own W18 bo [(.int .u8 (x.k)), (.int .i64 (x.n)), (.string (x.t)), (.slice cna (x.ns.length) cnc), (.slice cia (x.xs.length) cic), (.map (some bm)), (.int .i64 (failK x.k e 6))] 74 := own_bo
  replace kw := keeps_L kw hk (in_cons (.inr (by simp)) in_nil)
  clear hR hk hg hP
  refine zn (hK17 _ _ ?_)
  refine zq fun K19 hK19 => ?_
  refine rg mixed y18 zz18 ?_
  refine .mb rfl e7 ?_
  refine .al rfl ?_
  refine .dn fun a20 g W20 y20 zz20 hk hg hV hR hP => ?_
  obtain ⟨e6, -, -⟩ := hV
  replace D_cn := D_cn.ext hk
  replace D_ci := D_ci.ext hk
  replace e6 := e6.q
  replace own_bo := own_bo.ext hk
  replace own_bm := own_bm.ext hk
  replace own_b8_11 := own_b8_11.ext hk
  replace kw := kw.x hk
  clear hR hk hg hP
  refine zn (hK19 _ _ ?_)
  refine wp_ret ?_
  refine ret1 rfl zz20 e6 ⟨_, rfl, kw, ?_⟩
  rw [h1, h3, h2]
  exact ⟨rd_nil _, own_bo, own_bm⟩
 have hg1 : getB x name = true := by simpa using hc
 have hAn := hA name
 have hwg := Nat.le_trans (getV_wt x name) hx
 refine wp_skip (hK14 _ _ ?_)
 refine zq fun K21 hK21 => ?_
 refine rg mixed y16 zz16 ?_
 refine .mb rfl e2 ?_
 refine .i (v := (.agg #[(.int .u8 ((getV (x) name).k)), (.int .i64 ((getV (x) name).n)), (.string ((getV (x) name).t)), (.slice cn23_11a (((getV (x) name).ns).length) cn23_11c), (.slice ci23_11a (((getV (x) name).xs).length) ci23_11c)])) (loA (hbs rfl e8) own_b8_11 trivial agg33 sz33 rfl rfl) ?_
 refine .op (φ := IsT (IsD (SF w [b8_11, bo, bm]) (valsD (fv (getV x name)))) (Is (.int .i64 (ce (getV x name))))) (st_t (st_d sub_all) (st_is _)) (sp_callF1 ef (hlc rfl) (hlc rfl) (fun g W hk hgk => (hf W (kw.trans (.of_ext hk)) _ _ _ hwg (rd_base (rdV_in (x := (getV (x) name)) ht_v23_11 D_cn23_11 D_ci23_11 : Rd W16 (SF w [b8_11, bo, bm]) (V.d ((getV (x) name))) _) hk hgk sub_all)).mono (fun _ _ ⟨v, h1, h2, r1, h3, h4⟩ => ⟨v, h1, h2, r1, _, h3, rd_ar_sf kw (in_cons own_b8_11.lt (in_cons own_bo.lt (in_cons own_bm.lt in_nil))) hk hgk h4, rfl⟩))) ?_
 refine .op (φ := IsT (IsD (SF w [b8_11, bo, bm]) (valsD (fv (getV x name)))) (Is (.int .i64 (ce (getV x name))))) (st_t (st_d sub_all) (st_is _)) (sp_move (hlc rfl)) ?_
 refine .da (X := SF w [b8_11, bo, bm]) (e := valsD (fv (getV x name))) (sp_ext2 (hlc rfl) rfl) ?_
 refine .i (v := (.int .i64 (ce (getV x name)))) (sp_ext2' (hlc rfl) rfl) ?_
 refine .da (X := SF w [b8_11, bo, bm]) (e := valsD (fv (getV x name))) (sp_assign (hlc rfl)) ?_
 refine .al rfl ?_
 refine .dn fun a22 g W22 y22 zz22 hk hg hV hR hP => ?_
 obtain ⟨e11, e10, -, -, -, -, -, -, -⟩ := hV
 replace e0 := ft hR e0
 replace e1 := ft hR e1
 replace e7 := ft hR e7
 replace D_cn := D_cn.ext hk
 replace D_ci := D_ci.ext hk
 replace D_cn23_11 := D_cn23_11.ext hk
 replace D_ci23_11 := D_ci23_11.ext hk
 obtain ⟨v10_22, ev⟩ : ∃ v, sl a22 10 = v := ⟨_, rfl⟩
 rw [ev] at e10
 have D_v10_22 : Rd W22 (SF w [b8_11, bo, bm]) (valsD (fv (getV x name))) v10_22 := sf_end e10 hk [] in_nil
 replace e10 := ev; clear ev
 obtain ⟨v10_22a, v10_22c, ev, D2⟩ := rdVs_out D_v10_22
 subst ev; replace D_v10_22 := D2; clear D2
 replace e11 := e11.q
 replace own_bo := own_bo.ext hk
 replace own_bm := own_bm.ext hk
 replace own_b8_11 := own_b8_11.ext hk
 replace kw := kw.x hk
 clear hR hk hg hP
 refine zn (hK21 _ _ ?_)
 refine zq fun K23 hK23 => ?_
 refine zq fun K24 hK24 => ?_
 refine rg mixed y22 zz22 ?_
 refine .mb rfl e11 ?_
 refine .i (sp_neq (hlc rfl) Has.cst) ?_
 refine .dn fun a25 g W25 y25 zz25 hk hg hV hR hP => ?_
 obtain ⟨e37, -, -⟩ := hV
 replace e0 := ft hR e0
 replace e1 := ft hR e1
 replace e7 := ft hR e7
 replace e10 := ft hR e10
 replace e11 := ft hR e11
 replace D_cn := D_cn.ext hk
 replace D_ci := D_ci.ext hk
 replace D_v10_22 := D_v10_22.ext hk
 replace e37 := e37.q
 replace own_bo := own_bo.ext hk
 replace own_bm := own_bm.ext hk
 replace own_b8_11 := own_b8_11.ext hk
 replace kw := kw.x hk
 clear hR hk hg hP
 refine zn (hK24 _ _ ?_)
 refine zc e37 (fun hc => ?_) (fun hc => ?_)
 ·
  have hce : ce (getV x name) ≠ 0 := by simpa using hc
  have h1 : tkE x e name ce = failK x.k e (ce (getV x name)) := by rw [tkE, if_neg (by simp [hE]), if_neg (by simp [hg1]), failK, if_pos hE]
  have h2 : tkB x e name ce = false := by simp [tkB, hce]
  have h3 : tkA x A e name ce = A := by rw [tkA, h2]; rfl
  refine zq fun K26 hK26 => ?_
  refine wp_reg (fun k => k ∉ [bo]) (Ψ := fun W => Own W bo [(.int .u8 (x.k)), (.int .i64 (x.n)), (.string (x.t)), (.slice cna (x.ns.length) cnc), (.slice cia (x.xs.length) cic), (.map (some bm)), (.int .i64 (e))] 74) mixed y25 zz25 stE_own own_bo ?_
  refine .mb rfl e0 ?_
  refine .mb rfl e11 ?_
  refine .callL2 (φ1 := Is (.pointer (some ⟨bo, 0, none⟩))) (φ2 := Is (.int .i64 (ce (getV x name)))) (φ := Is (.tuple #[])) (Ψ' := fun W => Own W bo [(.int .u8 (x.k)), (.int .i64 (x.n)), (.string (x.t)), (.slice cna (x.ns.length) cnc), (.slice cia (x.xs.length) cic), (.map (some bm)), (.int .i64 (failK x.k e (ce (getV x name))))] 74) ent22 (hlc rfl) (hlc rfl) (st_is _) stE_own (fun g u1 u2 W hk hg h1 h2 hP => by have h1 : u1 = _ := h1; subst u1; have h2 : u2 = _ := h2; subst u2; exact (Fail_ok _ _ _ _ _ _ _ (ce (getV x name)) W _ hP)) ?_
  refine .dn fun a27 g W27 y27 zz27 hk hg hV hR hP => ?_
  obtain ⟨-, -, -, -⟩ := hV
  replace e7 := ft hR e7
  replace D_cn := sa_keepL D_cn hk (by simp)
  replace D_ci := sa_keepL D_ci hk (by simp)
  replace D_v10_22 := sf_keepL D_v10_22 hk (by simp)
  replace own_bm := ownM_keepL own_bm hk (by simp [hne.symm])
  replace own_b8_11 := own_keepL own_b8_11 hk (by simp [ne_bo_b8_11.symm])
  have own_bo := hP
  replace own_bo : Own W27 bo [(.int .u8 (x.k)), (.int .i64 (x.n)), (.string (x.t)), (.slice cna (x.ns.length) cnc), (.slice cia (x.xs.length) cic), (.map (some bm)), (.int .i64 (failK x.k e (ce (getV x name))))] 74 := own_bo
  replace kw := keeps_L kw hk (in_cons (.inr (by simp)) in_nil)
  clear hR hk hg hP
  refine zn (hK26 _ _ ?_)
  refine zq fun K28 hK28 => ?_
  refine rg mixed y27 zz27 ?_
  refine .mb rfl e7 ?_
  refine .al rfl ?_
  refine .dn fun a29 g W29 y29 zz29 hk hg hV hR hP => ?_
  obtain ⟨e6, -, -⟩ := hV
  replace D_cn := D_cn.ext hk
  replace D_ci := D_ci.ext hk
  replace e6 := e6.q
  replace own_bo := own_bo.ext hk
  replace own_bm := own_bm.ext hk
  replace own_b8_11 := own_b8_11.ext hk
  replace kw := kw.x hk
  clear hR hk hg hP
  refine zn (hK28 _ _ ?_)
  refine wp_ret ?_
  refine ret1 rfl zz29 e6 ⟨_, rfl, kw, ?_⟩
  rw [h1, h3, h2]
  exact ⟨rd_nil _, own_bo, own_bm⟩
 have hce : ce (getV x name) = 0 := by simpa using hc
 have h1 : tkE x e name ce = e := by rw [tkE, if_neg (by simp [hE]), if_neg (by simp [hg1]), hce, he0]
 have h2 : tkB x e name ce = true := by simp [tkB, hE, hg1, hce]
 have h3 : tkA x A e name ce = mset A name (mget A name + 1) := by rw [tkA, h2]; rfl
 refine wp_skip (hK23 _ _ ?_)
 refine zq fun K30 hK30 => ?_
 refine rg mixed y25 zz25 ?_
 refine .mb rfl e0 ?_
 refine .i (sp_nilP (hlc rfl)) ?_
 refine .i (fo 5 (hlc rfl) Try.underlying74 rfl sz72 rfl) ?_
 refine .i (lo1 (hlc rfl) own_bo trivial agg72 sz72 rfl) ?_
 refine .mb rfl e1 ?_
 refine .i (sp_lookup Try.underlying72 Try.underlying9 z3 (hlc rfl) (hlc rfl) own_bm trivial) ?_
 refine .i (sp_add (hlc rfl) Has.cst (i64_in (by omega))) ?_
 refine .dn fun a31 g W31 y31 zz31 hk hg hV hR hP => ?_
 obtain ⟨e48, -, e46, e45, -, -, -, -⟩ := hV
 replace e10 := ft hR e10
 replace D_cn := D_cn.ext hk
 replace D_ci := D_ci.ext hk
 replace D_v10_22 := D_v10_22.ext hk
 replace e45 := e45.q
 replace e46 := e46.q
 replace e48 := e48.q
 replace own_bo := own_bo.ext hk
 replace own_bm := own_bm.ext hk
 replace own_b8_11 := own_b8_11.ext hk
 replace kw := kw.x hk
 clear hR hk hg hP
 refine tail_updM Try.underlying72 Try.underlying9 e45 e46 e48 own_bm (fun W32 hs own_bm => ?_)
 have own_bm : OwnM W32 bm (mset A name ((mget A name : Int) + (1 : Int))) := own_bm
 replace own_bo := own_store own_bo hs hne
 replace own_b8_11 := own_store own_b8_11 hs ne_bm_b8_11.symm
 replace D_cn := sa_store D_cn hs (by simp)
 replace D_ci := sa_store D_ci hs (by simp)
 replace D_v10_22 := sf_store D_v10_22 hs (by simp)
 replace kw := keeps_storeN kw hs (by simp)
 clear hs
 refine zn (hK30 _ _ ?_)
 refine zq fun K33 hK33 => ?_
 refine rg mixed y31 zz31 ?_
 refine .mb rfl e10 ?_
 refine .al rfl ?_
 refine .dn fun a34 g W34 y34 zz34 hk hg hV hR hP => ?_
 obtain ⟨e6, -, -⟩ := hV
 replace D_cn := D_cn.ext hk
 replace D_ci := D_ci.ext hk
 replace D_v10_22 := D_v10_22.ext hk
 replace e6 := e6.q
 replace own_bo := own_bo.ext hk
 replace own_bm := own_bm.ext hk
 replace own_b8_11 := own_b8_11.ext hk
 replace kw := kw.x hk
 clear hR hk hg hP
 refine zn (hK33 _ _ ?_)
 refine wp_ret ?_
 refine ret1 rfl zz34 e6 ⟨_, rfl, kw, ?_⟩
 rw [h1, h3, h2]
 exact ⟨sf_fr D_v10_22, own_bo, own_bm⟩
set_option maxRecDepth 100000 in
theorem List_ok (x : V) (A : As) (e : Int) (hA : AB 1000000 A) (hx : x.wt ≤ 1073741824) (hxt : x.t.size ≤ maxLen) (name : ByteArray) (most : Int) (w : World) (S : BSet) (cn ci : Value) (bo bm : Nat) (hS : ∀ b o, S b o → Cln o) (hM : ∀ b ∈ [bo, bm], ∀ o, ¬ S b o) (hne : bo ≠ bm) (hv : Rd w S (strsD x.ns) cn) (hu : Rd w S (valsD x.xs) ci) (own_bo : Own w bo [.int .u8 x.k, .int .i64 x.n, .string x.t, cn, ci, .map (some bm), .int .i64 (e)] 74) (own_bm : OwnM w bm A) : Calls Try.prog 46 #[.pointer (some ⟨bo, 0, none⟩), .string name, .int .i64 most] w (RetL w [bo, bm] fun u W => Rd W (Fr w) (valsD (if tkB x e name (listE most) then listV most (getV x name) else [])) u ∧ Own W bo [.int .u8 x.k, .int .i64 x.n, .string x.t, cn, ci, .map (some bm), .int .i64 (tkE x e name (listE most))] 74 ∧ OwnM W bm (tkA x A e name (listE most))) := by
 obtain ⟨cna, cnc, ev, D_cn⟩ := rdS_out (rd_argM (M := [bo, bm]) hv hM)
 subst ev
 obtain ⟨cia, cic, ev, D_ci⟩ := rdVs_out (rd_argM (M := [bo, bm]) hu hM)
 subst ev
 refine enter Try.func46 rfl Try.ntmps46 (lbr rfl) fun a0 y0 zz0 harg => ?_
 have e0 : sl a0 0 = (.pointer (some ⟨bo, 0, none⟩)) := harg 0 (lbr rfl)
 have e1 : sl a0 1 = (.string (name)) := harg 1 (lbr rfl)
 have e2 : sl a0 2 = (.int .i64 (most)) := harg 2 (lbr rfl)
 have kw := Keeps.refl (fun k => k ∉ [bo, bm]) w
 clear harg
 refine zq fun K1 hK1 => ?_
 refine rg mixed y0 zz0 ?_
 refine .boxOp (v := (.int .i64 (most))) (hbs rfl e2) ?_
 refine .ac ?_
 refine .dn fun a2 g W2 y2 zz2 hk hg hV hR hP => ?_
 obtain ⟨-, ⟨b5_2, e5, hb5, own_b5_2⟩, -⟩ := hV
 have lo_b5_2 : w.heap.size ≤ b5_2 := Nat.le_trans kw.size (hg.lo _ _ hb5)
 have ne_bo_b5_2 : bo ≠ b5_2 := Nat.ne_of_lt (Nat.lt_of_lt_of_le own_bo.lt (hg.lo _ _ hb5))
 have ne_bm_b5_2 : bm ≠ b5_2 := Nat.ne_of_lt (Nat.lt_of_lt_of_le own_bm.lt (hg.lo _ _ hb5))
 have own_b5_2 : Own W2 b5_2 [(.int .i64 (most))] 3 := own_b5_2
 replace e0 := ft hR e0
 replace e1 := ft hR e1
 replace D_cn := sa_more D_cn hk [b5_2] (in_cons (hg.lo _ _ hb5) in_nil)
 replace D_ci := sa_more D_ci hk [b5_2] (in_cons (hg.lo _ _ hb5) in_nil)
 replace own_bo := own_bo.ext hk
 replace own_bm := own_bm.ext hk
 replace kw := kw.x hk
 clear hR hk hg hP hb5
 refine zn (hK1 _ _ ?_)
 refine zq fun K3 hK3 => ?_
 refine wp_reg (fun k => k ∉ [bo, bm]) (Ψ := fun W => Own W bo [(.int .u8 (x.k)), (.int .i64 (x.n)), (.string (x.t)), (.slice cna (x.ns.length) cnc), (.slice cia (x.xs.length) cic), (.map (some bm)), (.int .i64 (e))] 74 ∧ OwnM W bm (A)) mixed y2 zz2 (stE_and stE_own stE_ownM) ⟨own_bo, own_bm⟩ ?_
 refine .mb rfl e0 ?_
 refine .mb rfl e1 ?_
 refine .i (v := (.func (.func 109) #[] #[(.pointer (some ⟨b5_2, 0, none⟩))])) (sp_mkF1 (hbs rfl e5)) ?_
 refine .callL3 (φ1 := Is (.pointer (some ⟨bo, 0, none⟩))) (φ2 := Is (.string (name))) (φ3 := Is (.func (.func 109) #[] #[(.pointer (some ⟨b5_2, 0, none⟩))])) (φ := IsD (Fr W2) (valsD (if tkB x e name (listE most) then listV most (getV x name) else []))) (Ψ' := fun W => Own W bo [(.int .u8 (x.k)), (.int .i64 (x.n)), (.string (x.t)), (.slice cna (x.ns.length) cnc), (.slice cia (x.xs.length) cic), (.map (some bm)), (.int .i64 (tkE x e name (listE most)))] 74 ∧ OwnM W bm (tkA x A e name (listE most))) ent108 (hlc rfl) (hlc rfl) (hlc rfl) (st_d (sub_frnl (in_cons own_bo.lt (in_cons own_bm.lt in_nil)))) (stE_and stE_own stE_ownM) (fun g u1 u2 u3 W hk hg h1 h2 h3 hP => by have h1 : u1 = _ := h1; subst u1; have h2 : u2 = _ := h2; subst u2; have h3 : u3 = _ := h3; subst u3; exact (takeL_ok (x) (A) (e) hA hx hxt name 109 #[(.pointer (some ⟨b5_2, 0, none⟩))] (listE most) (listV most) W _ _ _ _ _ (sa_cln hS) (sa_notin (by simp)) hne (sa_keepL D_cn hk (by simp)) (sa_keepL D_ci hk (by simp)) hP.1 hP.2 ent109 (fun W2 hk2 Z y v hy hv2 => list1_ok y most W2 _ v b5_2 hv2 (own_keepL (own_keepL own_b5_2 hk (by simp [ne_bo_b5_2.symm, ne_bm_b5_2.symm])) hk2 (by simp [ne_bo_b5_2.symm, ne_bm_b5_2.symm])))).mono (fun _ _ ⟨v, h1, h2, h3, h4⟩ => ⟨v, h1, h2, fresh_d hk hg h3, h4⟩)) ?_
 refine .op (φ := IsD (Fr W2) (valsD (if tkB x e name (listE most) then listV most (getV x name) else []))) (st_d (sub_frnl (in_cons own_bo.lt (in_cons own_bm.lt in_nil)))) (sp_assign (hlc rfl)) ?_
 refine .dn fun a4 g W4 y4 zz4 hk hg hV hR hP => ?_
 obtain ⟨e6, -, -, -, -, -⟩ := hV
 obtain ⟨v6_4, ev⟩ : ∃ v, sl a4 6 = v := ⟨_, rfl⟩
 rw [ev] at e6
 have D_v6_4 : Rd W4 (SF w [b5_2, bo, bm]) (valsD (if tkB x e name (listE most) then listV most (getV x name) else [])) v6_4 := fr_end (M := [b5_2, bo, bm]) e6 kw [] in_nil (in_cons own_b5_2.lt (in_cons own_bo.lt (in_cons own_bm.lt in_nil)))
 replace e6 := ev; clear ev
 obtain ⟨v6_4a, v6_4c, ev, D2⟩ := rdVs_out D_v6_4
 subst ev; replace D_v6_4 := D2; clear D2
 replace D_cn := sa_keepL D_cn hk (by simp)
 replace D_ci := sa_keepL D_ci hk (by simp)
 replace own_b5_2 := own_keepL own_b5_2 hk (by simp [ne_bo_b5_2.symm, ne_bm_b5_2.symm])
 obtain ⟨own_bo, own_bm⟩ := hP
 replace own_bo : Own W4 bo [(.int .u8 (x.k)), (.int .i64 (x.n)), (.string (x.t)), (.slice cna (x.ns.length) cnc), (.slice cia (x.xs.length) cic), (.map (some bm)), (.int .i64 (tkE x e name (listE most)))] 74 := own_bo
 replace own_bm : OwnM W4 bm (tkA x A e name (listE most)) := own_bm
 replace kw := keeps_L kw hk (in_cons (.inr (by simp)) (in_cons (.inr (by simp)) in_nil))
 clear hR hk hg
 refine zn (hK3 _ _ ?_)
 refine wp_ret ?_
 refine ret1 rfl zz4 e6 ⟨_, rfl, kw, ?_⟩
 exact ⟨sf_fr D_v6_4, own_bo, own_bm⟩
end Go.Proofs.Ytnobijngkpflcaa
namespace Go.Proofs.Ytnobijngkpflcaa
open Go.Eng
set_option maxRecDepth 100000 in
set_option maxHeartbeats 2000000 in
theorem awake11_ok (w : World) : Calls Try.prog 28 #[] w (Ret w fun u _ => u = .bool true) := by
 refine enter Try.func28 rfl Try.ntmps28 (lbr rfl) fun a0 y0 zz0 harg => ?_
 have kw := Keeps.refl All w
 clear harg
 refine zq fun K1 hK1 => ?_
 refine rg mixed y0 zz0 ?_
 refine .ac ?_
 refine .dn fun a2 g W2 y2 zz2 hk hg hV hR hP => ?_
 obtain ⟨-, -⟩ := hV
 replace kw := kw.x hk
 clear hR hk hg hP
 refine zn (hK1 _ _ ?_)
 refine zq fun K3 hK3 => ?_
 refine rg mixed y2 zz2 ?_
 refine .i (v := (.agg #[(.int .u8 (3)), (.int .i64 (0)), (.string (⟨#[120]⟩)), (.slice none 0 0), (.slice none 0 0)])) (sp_call1 (φ1 := Is (.string (⟨#[120]⟩))) ent37 Has.cst (fun g u1 W hk hgk h1 => by have h1 : u1 = _ := h1; subst u1; exact pkText_ok (⟨#[120]⟩) W)) ?_
 refine .i (v := (.agg #[(.string (⟨#[98]⟩)), (.int .u8 (3)), (.int .i64 (0)), (.string (⟨#[120]⟩)), (.slice none 0 0), (.slice none 0 0)])) (sp_build (vs := [(0, (.string (⟨#[98]⟩))), (1, (.agg #[(.int .u8 (3)), (.int .i64 (0)), (.string (⟨#[120]⟩)), (.slice none 0 0), (.slice none 0 0)]))]) Try.underlying67 z67 (pl67 Try.underlying67) ⟨rfl, Has.cst, rfl, (hlc rfl), trivial⟩ (by kernel_rfl)) ?_
 refine .i (v := (.agg #[(.int .u8 (2)), (.int .i64 (1)), (.string (⟨#[]⟩)), (.slice none 0 0), (.slice none 0 0)])) (sp_call1 (φ1 := Is (.int .i64 (1))) ent39 Has.cst (fun g u1 W hk hgk h1 => by have h1 : u1 = _ := h1; subst u1; exact pkNum_ok (1) W)) ?_
 refine .i (v := (.agg #[(.string (⟨#[97]⟩)), (.int .u8 (2)), (.int .i64 (1)), (.string (⟨#[]⟩)), (.slice none 0 0), (.slice none 0 0)])) (sp_build (vs := [(0, (.string (⟨#[97]⟩))), (1, (.agg #[(.int .u8 (2)), (.int .i64 (1)), (.string (⟨#[]⟩)), (.slice none 0 0), (.slice none 0 0)]))]) Try.underlying67 z67 (pl67 Try.underlying67) ⟨rfl, Has.cst, rfl, (hlc rfl), trivial⟩ (by kernel_rfl)) ?_
 refine .da (X := SF w []) (e := mbsD ([Mb.mk (⟨#[98]⟩) (V.mk (3) (0) (⟨#[120]⟩) ([]) ([])), Mb.mk (⟨#[97]⟩) (V.mk (2) (1) (⟨#[]⟩) ([]) ([]))])) (sp_bsl (ds := [Mb.d (Mb.mk (⟨#[98]⟩) (V.mk (3) (0) (⟨#[120]⟩) ([]) ([]))), Mb.d (Mb.mk (⟨#[97]⟩) (V.mk (2) (1) (⟨#[]⟩) ([]) ([])))]) Try.underlying82 sz67 z67 (lbr rfl) (lbr rfl) ⟨rfl, ((hlc rfl).dat (rdMb_mk (lbr rfl) (rdV_mk (Nat.le_of_ble_eq_true (by kernel_rfl)) (rd_nil _) (rd_nil _) : Rd W2 (SF w []) (V.d (V.mk (3) (0) (⟨#[120]⟩) ([]) ([]))) _) : Rd W2 (SF w []) (Mb.d (Mb.mk (⟨#[98]⟩) (V.mk (3) (0) (⟨#[120]⟩) ([]) ([])))) _) sub_all), ⟨rfl, ((hlc rfl).dat (rdMb_mk (lbr rfl) (rdV_mk (by decide) (rd_nil _) (rd_nil _) : Rd W2 (SF w []) (V.d (V.mk (2) (1) (⟨#[]⟩) ([]) ([]))) _) : Rd W2 (SF w []) (Mb.d (Mb.mk (⟨#[97]⟩) (V.mk (2) (1) (⟨#[]⟩) ([]) ([])))) _) sub_all), trivial⟩⟩ rfl (by intro e he; simp at he; rcases he with rfl | rfl <;> exact width_Mb _) (fr_sf kw in_nil)) ?_
 refine .op (φ := IsT (IsD (Fr W2) (V.d (objM ([Mb.mk (⟨#[98]⟩) (V.mk (3) (0) (⟨#[120]⟩) ([]) ([])), Mb.mk (⟨#[97]⟩) (V.mk (2) (1) (⟨#[]⟩) ([]) ([]))])))) (Is (.int .i64 (objE ([Mb.mk (⟨#[98]⟩) (V.mk (3) (0) (⟨#[120]⟩) ([]) ([])), Mb.mk (⟨#[97]⟩) (V.mk (2) (1) (⟨#[]⟩) ([]) ([]))]))))) (st_t (st_d sub_all) (st_is _)) (sp_call1 (φ1 := IsD (SF w []) (mbsD ([Mb.mk (⟨#[98]⟩) (V.mk (3) (0) (⟨#[120]⟩) ([]) ([])), Mb.mk (⟨#[97]⟩) (V.mk (2) (1) (⟨#[]⟩) ([]) ([]))]))) ent38 (hlc rfl) (fun g u1 W hk hgk h1 => (ObjectOf_ok ([Mb.mk (⟨#[98]⟩) (V.mk (3) (0) (⟨#[120]⟩) ([]) ([])), Mb.mk (⟨#[97]⟩) (V.mk (2) (1) (⟨#[]⟩) ([]) ([]))]) (lbr rfl) (lbr rfl) (obw_of (by kernel_rfl)) W _ _ (fun b o h => h.1.2.1) h1).mono (fun _ _ ⟨v, h1, h2, r1, h3, h4⟩ => ⟨v, h1, h2, r1, _, h3, fresh_d hk hgk h4, rfl⟩))) ?_
 refine .op (φ := IsT (IsD (Fr W2) (V.d (objM ([Mb.mk (⟨#[98]⟩) (V.mk (3) (0) (⟨#[120]⟩) ([]) ([])), Mb.mk (⟨#[97]⟩) (V.mk (2) (1) (⟨#[]⟩) ([]) ([]))])))) (Is (.int .i64 (objE ([Mb.mk (⟨#[98]⟩) (V.mk (3) (0) (⟨#[120]⟩) ([]) ([])), Mb.mk (⟨#[97]⟩) (V.mk (2) (1) (⟨#[]⟩) ([]) ([]))]))))) (st_t (st_d sub_all) (st_is _)) (sp_move (hlc rfl)) ?_
 refine .da (X := Fr W2) (e := V.d (objM ([Mb.mk (⟨#[98]⟩) (V.mk (3) (0) (⟨#[120]⟩) ([]) ([])), Mb.mk (⟨#[97]⟩) (V.mk (2) (1) (⟨#[]⟩) ([]) ([]))]))) (sp_ext2 (hlc rfl) rfl) ?_
 refine .i (v := (.int .i64 (objE ([Mb.mk (⟨#[98]⟩) (V.mk (3) (0) (⟨#[120]⟩) ([]) ([])), Mb.mk (⟨#[97]⟩) (V.mk (2) (1) (⟨#[]⟩) ([]) ([]))])))) (sp_ext2' (hlc rfl) rfl) ?_
 refine .alloc z33 ?_
 refine .dn fun a4 g W4 y4 zz4 hk hg hV hR hP => ?_
 obtain ⟨⟨b1_4, e1, hb1, own_b1_4⟩, e16, e15, -, -, -, -, -, -, -, -⟩ := hV
 have lo_b1_4 : w.heap.size ≤ b1_4 := Nat.le_trans kw.size (hg.lo _ _ hb1)
 have own_b1_4 : Own W4 b1_4 [(.int .u8 (0)), (.int .i64 (0)), (.string (⟨#[]⟩)), (.slice none 0 0), (.slice none 0 0)] 33 := own_b1_4
 obtain ⟨v15_4, ev⟩ : ∃ v, sl a4 15 = v := ⟨_, rfl⟩
 rw [ev] at e15
 have D_v15_4 : Rd W4 (SF w [b1_4]) (V.d (objM ([Mb.mk (⟨#[98]⟩) (V.mk (3) (0) (⟨#[120]⟩) ([]) ([])), Mb.mk (⟨#[97]⟩) (V.mk (2) (1) (⟨#[]⟩) ([]) ([]))]))) v15_4 := fr_end (M := []) e15 kw [b1_4] (in_cons ⟨_, hb1⟩ in_nil) in_nil
 replace e15 := ev; clear ev
 obtain ⟨cn15_4a, cn15_4c, ci15_4a, ci15_4c, ev, ht_v15_4, D_cn15_4, D_ci15_4⟩ := rdV_out D_v15_4
 subst ev; clear D_v15_4
 replace e16 := e16.q
 replace kw := kw.x hk
 clear hR hk hg hP hb1
 refine tail_store e1 e15 sz33 rfl own_b1_4 (lbr rfl) (all_cons rfl (all_cons rfl (all_cons rfl (all_cons rfl (all_cons rfl all_nil))))) (fun W5 hs own_b1_4 => ?_)
 have own_b1_4 : Own W5 b1_4 [(.int .u8 ((objM ([Mb.mk (⟨#[98]⟩) (V.mk (3) (0) (⟨#[120]⟩) ([]) ([])), Mb.mk (⟨#[97]⟩) (V.mk (2) (1) (⟨#[]⟩) ([]) ([]))])).k)), (.int .i64 ((objM ([Mb.mk (⟨#[98]⟩) (V.mk (3) (0) (⟨#[120]⟩) ([]) ([])), Mb.mk (⟨#[97]⟩) (V.mk (2) (1) (⟨#[]⟩) ([]) ([]))])).n)), (.string ((objM ([Mb.mk (⟨#[98]⟩) (V.mk (3) (0) (⟨#[120]⟩) ([]) ([])), Mb.mk (⟨#[97]⟩) (V.mk (2) (1) (⟨#[]⟩) ([]) ([]))])).t)), (.slice cn15_4a (((objM ([Mb.mk (⟨#[98]⟩) (V.mk (3) (0) (⟨#[120]⟩) ([]) ([])), Mb.mk (⟨#[97]⟩) (V.mk (2) (1) (⟨#[]⟩) ([]) ([]))])).ns).length) cn15_4c), (.slice ci15_4a (((objM ([Mb.mk (⟨#[98]⟩) (V.mk (3) (0) (⟨#[120]⟩) ([]) ([])), Mb.mk (⟨#[97]⟩) (V.mk (2) (1) (⟨#[]⟩) ([]) ([]))])).xs).length) ci15_4c)] 33 := own_b1_4
 replace D_cn15_4 := sf_store D_cn15_4 hs (by simp)
 replace D_ci15_4 := sf_store D_ci15_4 hs (by simp)
 replace kw := keeps_store kw hs lo_b1_4
 clear hs
 refine tail_assign (v := (.int .i64 (objE ([Mb.mk (⟨#[98]⟩) (V.mk (3) (0) (⟨#[120]⟩) ([]) ([])), Mb.mk (⟨#[97]⟩) (V.mk (2) (1) (⟨#[]⟩) ([]) ([]))])))) e16 (by rw [y4]; exact Nat.le_of_ble_eq_true rfl) (fun a6 y6 zz6 e2 hr => ?_)
 replace y6 := y6.trans y4; replace zz6 := zz6.trans zz4
 replace e1 := (hr 1 (by decide)).trans e1
 replace e15 := (hr 15 (by decide)).trans e15
 replace e16 := (hr 16 (by decide)).trans e16
 clear hr
 refine zn (hK3 _ _ ?_)
 refine zq fun K7 hK7 => ?_
 refine rg mixed y6 zz6 ?_
 refine .i (v := (.agg #[(.string (⟨#[97]⟩)), (.int .u8 (0)), (.int .i64 (0)), (.string (⟨#[]⟩)), (.slice none 0 0), (.slice none 0 0)])) (sp_build (vs := [(0, (.string (⟨#[97]⟩)))]) Try.underlying67 z67 (pl67 Try.underlying67) ⟨rfl, Has.cst, trivial⟩ rfl) ?_
 refine .i (v := (.agg #[(.string (⟨#[97]⟩)), (.int .u8 (0)), (.int .i64 (0)), (.string (⟨#[]⟩)), (.slice none 0 0), (.slice none 0 0)])) (sp_build (vs := [(0, (.string (⟨#[97]⟩)))]) Try.underlying67 z67 (pl67 Try.underlying67) ⟨rfl, Has.cst, trivial⟩ rfl) ?_
 refine .da (X := SF w [b1_4]) (e := mbsD ([Mb.mk (⟨#[97]⟩) (V.mk (0) (0) (⟨#[]⟩) ([]) ([])), Mb.mk (⟨#[97]⟩) (V.mk (0) (0) (⟨#[]⟩) ([]) ([]))])) (sp_bsl (ds := [Mb.d (Mb.mk (⟨#[97]⟩) (V.mk (0) (0) (⟨#[]⟩) ([]) ([]))), Mb.d (Mb.mk (⟨#[97]⟩) (V.mk (0) (0) (⟨#[]⟩) ([]) ([])))]) Try.underlying82 sz67 z67 (lbr rfl) (lbr rfl) ⟨rfl, ((hlc rfl).dat (rdMb_mk (lbr rfl) (rdV_mk (lbr rfl) (rd_nil _) (rd_nil _) : Rd W5 (SF w [b1_4]) (V.d (V.mk (0) (0) (⟨#[]⟩) ([]) ([]))) _) : Rd W5 (SF w [b1_4]) (Mb.d (Mb.mk (⟨#[97]⟩) (V.mk (0) (0) (⟨#[]⟩) ([]) ([])))) _) sub_all), ⟨rfl, ((hlc rfl).dat (rdMb_mk (lbr rfl) (rdV_mk (lbr rfl) (rd_nil _) (rd_nil _) : Rd W5 (SF w [b1_4]) (V.d (V.mk (0) (0) (⟨#[]⟩) ([]) ([]))) _) : Rd W5 (SF w [b1_4]) (Mb.d (Mb.mk (⟨#[97]⟩) (V.mk (0) (0) (⟨#[]⟩) ([]) ([])))) _) sub_all), trivial⟩⟩ rfl (by intro e he; simp at he; rcases he with rfl | rfl <;> exact width_Mb _) (fr_sf kw (in_cons own_b1_4.lt in_nil))) ?_
 refine .op (φ := IsT (IsD (Fr W5) (V.d (objM ([Mb.mk (⟨#[97]⟩) (V.mk (0) (0) (⟨#[]⟩) ([]) ([])), Mb.mk (⟨#[97]⟩) (V.mk (0) (0) (⟨#[]⟩) ([]) ([]))])))) (Is (.int .i64 (objE ([Mb.mk (⟨#[97]⟩) (V.mk (0) (0) (⟨#[]⟩) ([]) ([])), Mb.mk (⟨#[97]⟩) (V.mk (0) (0) (⟨#[]⟩) ([]) ([]))]))))) (st_t (st_d sub_all) (st_is _)) (sp_call1 (φ1 := IsD (SF w [b1_4]) (mbsD ([Mb.mk (⟨#[97]⟩) (V.mk (0) (0) (⟨#[]⟩) ([]) ([])), Mb.mk (⟨#[97]⟩) (V.mk (0) (0) (⟨#[]⟩) ([]) ([]))]))) ent38 (hlc rfl) (fun g u1 W hk hgk h1 => (ObjectOf_ok ([Mb.mk (⟨#[97]⟩) (V.mk (0) (0) (⟨#[]⟩) ([]) ([])), Mb.mk (⟨#[97]⟩) (V.mk (0) (0) (⟨#[]⟩) ([]) ([]))]) (lbr rfl) (lbr rfl) (obw_of (by kernel_rfl)) W _ _ (fun b o h => h.1.2.1) h1).mono (fun _ _ ⟨v, h1, h2, r1, h3, h4⟩ => ⟨v, h1, h2, r1, _, h3, fresh_d hk hgk h4, rfl⟩))) ?_
 refine .op (φ := IsT (IsD (Fr W5) (V.d (objM ([Mb.mk (⟨#[97]⟩) (V.mk (0) (0) (⟨#[]⟩) ([]) ([])), Mb.mk (⟨#[97]⟩) (V.mk (0) (0) (⟨#[]⟩) ([]) ([]))])))) (Is (.int .i64 (objE ([Mb.mk (⟨#[97]⟩) (V.mk (0) (0) (⟨#[]⟩) ([]) ([])), Mb.mk (⟨#[97]⟩) (V.mk (0) (0) (⟨#[]⟩) ([]) ([]))]))))) (st_t (st_d sub_all) (st_is _)) (sp_move (hlc rfl)) ?_
 refine .da (X := Fr W5) (e := V.d (objM ([Mb.mk (⟨#[97]⟩) (V.mk (0) (0) (⟨#[]⟩) ([]) ([])), Mb.mk (⟨#[97]⟩) (V.mk (0) (0) (⟨#[]⟩) ([]) ([]))]))) (sp_ext2 (hlc rfl) rfl) ?_
 refine .i (v := (.int .i64 (objE ([Mb.mk (⟨#[97]⟩) (V.mk (0) (0) (⟨#[]⟩) ([]) ([])), Mb.mk (⟨#[97]⟩) (V.mk (0) (0) (⟨#[]⟩) ([]) ([]))])))) (sp_ext2' (hlc rfl) rfl) ?_
 refine .alloc z33 ?_
 refine .dn fun a8 g W8 y8 zz8 hk hg hV hR hP => ?_
 obtain ⟨⟨b3_8, e3, hb3, own_b3_8⟩, e23, e22, -, -, -, -, -, -⟩ := hV
 have lo_b3_8 : w.heap.size ≤ b3_8 := Nat.le_trans kw.size (hg.lo _ _ hb3)
 have ne_b1_4_b3_8 : b1_4 ≠ b3_8 := Nat.ne_of_lt (Nat.lt_of_lt_of_le own_b1_4.lt (hg.lo _ _ hb3))
 have own_b3_8 : Own W8 b3_8 [(.int .u8 (0)), (.int .i64 (0)), (.string (⟨#[]⟩)), (.slice none 0 0), (.slice none 0 0)] 33 := own_b3_8
 replace e1 := ft hR e1
 replace e2 := ft hR e2
 replace D_cn15_4 := sf_more D_cn15_4 hk [b3_8] (in_cons (hg.lo _ _ hb3) in_nil)
 replace D_ci15_4 := sf_more D_ci15_4 hk [b3_8] (in_cons (hg.lo _ _ hb3) in_nil)
 obtain ⟨v22_8, ev⟩ : ∃ v, sl a8 22 = v := ⟨_, rfl⟩
 rw [ev] at e22
 have D_v22_8 : Rd W8 (SF w [b3_8, b1_4]) (V.d (objM ([Mb.mk (⟨#[97]⟩) (V.mk (0) (0) (⟨#[]⟩) ([]) ([])), Mb.mk (⟨#[97]⟩) (V.mk (0) (0) (⟨#[]⟩) ([]) ([]))]))) v22_8 := fr_end (M := [b1_4]) e22 kw [b3_8] (in_cons ⟨_, hb3⟩ in_nil) (in_cons own_b1_4.lt in_nil)
 replace e22 := ev; clear ev
 obtain ⟨cn22_8a, cn22_8c, ci22_8a, ci22_8c, ev, ht_v22_8, D_cn22_8, D_ci22_8⟩ := rdV_out D_v22_8
 subst ev; clear D_v22_8
 replace e23 := e23.q
 replace own_b1_4 := own_b1_4.ext hk
 replace kw := kw.x hk
 clear hR hk hg hP hb3
 refine tail_store e3 e22 sz33 rfl own_b3_8 (lbr rfl) (all_cons rfl (all_cons rfl (all_cons rfl (all_cons rfl (all_cons rfl all_nil))))) (fun W9 hs own_b3_8 => ?_)
 have own_b3_8 : Own W9 b3_8 [(.int .u8 ((objM ([Mb.mk (⟨#[97]⟩) (V.mk (0) (0) (⟨#[]⟩) ([]) ([])), Mb.mk (⟨#[97]⟩) (V.mk (0) (0) (⟨#[]⟩) ([]) ([]))])).k)), (.int .i64 ((objM ([Mb.mk (⟨#[97]⟩) (V.mk (0) (0) (⟨#[]⟩) ([]) ([])), Mb.mk (⟨#[97]⟩) (V.mk (0) (0) (⟨#[]⟩) ([]) ([]))])).n)), (.string ((objM ([Mb.mk (⟨#[97]⟩) (V.mk (0) (0) (⟨#[]⟩) ([]) ([])), Mb.mk (⟨#[97]⟩) (V.mk (0) (0) (⟨#[]⟩) ([]) ([]))])).t)), (.slice cn22_8a (((objM ([Mb.mk (⟨#[97]⟩) (V.mk (0) (0) (⟨#[]⟩) ([]) ([])), Mb.mk (⟨#[97]⟩) (V.mk (0) (0) (⟨#[]⟩) ([]) ([]))])).ns).length) cn22_8c), (.slice ci22_8a (((objM ([Mb.mk (⟨#[97]⟩) (V.mk (0) (0) (⟨#[]⟩) ([]) ([])), Mb.mk (⟨#[97]⟩) (V.mk (0) (0) (⟨#[]⟩) ([]) ([]))])).xs).length) ci22_8c)] 33 := own_b3_8
 replace own_b1_4 := own_store own_b1_4 hs ne_b1_4_b3_8
 replace D_cn15_4 := sf_store D_cn15_4 hs (by simp)
 replace D_ci15_4 := sf_store D_ci15_4 hs (by simp)
 replace D_cn22_8 := sf_store D_cn22_8 hs (by simp)
 replace D_ci22_8 := sf_store D_ci22_8 hs (by simp)
 replace kw := keeps_store kw hs lo_b3_8
 clear hs
 refine tail_assign (v := (.int .i64 (objE ([Mb.mk (⟨#[97]⟩) (V.mk (0) (0) (⟨#[]⟩) ([]) ([])), Mb.mk (⟨#[97]⟩) (V.mk (0) (0) (⟨#[]⟩) ([]) ([]))])))) e23 (by rw [y8]; exact Nat.le_of_ble_eq_true rfl) (fun a10 y10 zz10 e4 hr => ?_)
 replace y10 := y10.trans y8; replace zz10 := zz10.trans zz8
 replace e1 := (hr 1 (by decide)).trans e1
 replace e2 := (hr 2 (by decide)).trans e2
 replace e3 := (hr 3 (by decide)).trans e3
 replace e22 := (hr 22 (by decide)).trans e22
 replace e23 := (hr 23 (by decide)).trans e23
 clear hr
 refine zn (hK7 _ _ ?_)
 refine zq fun K11 hK11 => ?_
 refine zq fun K12 hK12 => ?_
 refine rg mixed y10 zz10 ?_
 refine .mb rfl e2 ?_
 refine .i (sp_neq (hlc rfl) Has.cst) ?_
 refine .i (sp_move (hlc rfl)) ?_
 refine .em rfl (hlc rfl) rfl e4 ?_
 refine .e rfl (hlc rfl) (fun hg => sp_neq ((hlc rfl).undE hg) Has.cst) ?_
 refine .i (sp_or (hlc rfl) ((hlc rfl).weak fun hq => hq)) ?_
 refine .i (sp_move (hlc rfl)) ?_
 refine .e (v := (.agg #[(.int .u8 ((objM ([Mb.mk (⟨#[98]⟩) (V.mk (3) (0) (⟨#[120]⟩) ([]) ([])), Mb.mk (⟨#[97]⟩) (V.mk (2) (1) (⟨#[]⟩) ([]) ([]))])).k)), (.int .i64 ((objM ([Mb.mk (⟨#[98]⟩) (V.mk (3) (0) (⟨#[120]⟩) ([]) ([])), Mb.mk (⟨#[97]⟩) (V.mk (2) (1) (⟨#[]⟩) ([]) ([]))])).n)), (.string ((objM ([Mb.mk (⟨#[98]⟩) (V.mk (3) (0) (⟨#[120]⟩) ([]) ([])), Mb.mk (⟨#[97]⟩) (V.mk (2) (1) (⟨#[]⟩) ([]) ([]))])).t)), (.slice cn15_4a (((objM ([Mb.mk (⟨#[98]⟩) (V.mk (3) (0) (⟨#[120]⟩) ([]) ([])), Mb.mk (⟨#[97]⟩) (V.mk (2) (1) (⟨#[]⟩) ([]) ([]))])).ns).length) cn15_4c), (.slice ci15_4a (((objM ([Mb.mk (⟨#[98]⟩) (V.mk (3) (0) (⟨#[120]⟩) ([]) ([])), Mb.mk (⟨#[97]⟩) (V.mk (2) (1) (⟨#[]⟩) ([]) ([]))])).xs).length) ci15_4c)])) rfl (hlc rfl) (fun hg => loA (hbs rfl e1) own_b1_4 trivial agg33 sz33 rfl rfl) ?_
 refine .opE (t := 30) (φ := IsD (SF w [b3_8, b1_4]) (strsD ([⟨#[97]⟩, ⟨#[98]⟩]))) rfl (hlc rfl) (st_d sub_all) (fun hg => sp_bsl (ds := [D.str (⟨#[97]⟩), D.str (⟨#[98]⟩)]) Try.underlying23 sz9 z9 (lbr rfl) (lbr rfl) ⟨rfl, (Has.cst.str (lbr rfl)), ⟨rfl, (Has.cst.str (lbr rfl)), trivial⟩⟩ rfl (by simp [width]) (fr_sf kw (in_cons own_b3_8.lt (in_cons own_b1_4.lt in_nil)))) ?_
 refine .e (v := (.agg #[(.int .u8 (2)), (.int .i64 (1)), (.string (⟨#[]⟩)), (.slice none 0 0), (.slice none 0 0)])) rfl (hlc rfl) (fun hg => sp_build (vs := [(0, (.int .u8 (2))), (1, (.int .i64 (1)))]) Try.underlying33 z33 (pl33 Try.underlying33) ⟨rfl, Has.cst, rfl, Has.cst, trivial⟩ rfl) ?_
 refine .e (v := (.agg #[(.int .u8 (3)), (.int .i64 (0)), (.string (⟨#[120]⟩)), (.slice none 0 0), (.slice none 0 0)])) rfl (hlc rfl) (fun hg => sp_build (vs := [(0, (.int .u8 (3))), (2, (.string (⟨#[120]⟩)))]) Try.underlying33 z33 (pl33 Try.underlying33) ⟨rfl, Has.cst, rfl, Has.cst, trivial⟩ rfl) ?_
 refine .opE (t := 30) (φ := IsD (SF w [b3_8, b1_4]) (valsD ([V.mk (2) (1) (⟨#[]⟩) ([]) ([]), V.mk (3) (0) (⟨#[120]⟩) ([]) ([])]))) rfl (hlc rfl) (st_d sub_all) (fun hg => sp_bsl (ds := [V.d (V.mk (2) (1) (⟨#[]⟩) ([]) ([])), V.d (V.mk (3) (0) (⟨#[120]⟩) ([]) ([]))]) Try.underlying31 sz33 z33 (lbr rfl) (lbr rfl) ⟨rfl, (((hlc rfl).undE hg).dat (rdV_mk (lbr rfl) (rd_nil _) (rd_nil _) : Rd W9 (SF w [b3_8, b1_4]) (V.d (V.mk (2) (1) (⟨#[]⟩) ([]) ([]))) _) sub_all), ⟨rfl, (((hlc rfl).undE hg).dat (rdV_mk (lbr rfl) (rd_nil _) (rd_nil _) : Rd W9 (SF w [b3_8, b1_4]) (V.d (V.mk (3) (0) (⟨#[120]⟩) ([]) ([]))) _) sub_all), trivial⟩⟩ rfl (by intro e he; simp at he; rcases he with rfl | rfl <;> exact width_V _) (fr_sf kw (in_cons own_b3_8.lt (in_cons own_b1_4.lt in_nil)))) ?_
 refine .opE (t := 30) (φ := IsD (SF w [b3_8, b1_4]) (V.d (V.mk (5) (0) (⟨#[]⟩) ([⟨#[97]⟩, ⟨#[98]⟩]) ([V.mk (2) (1) (⟨#[]⟩) ([]) ([]), V.mk (3) (0) (⟨#[120]⟩) ([]) ([])])))) rfl (hlc rfl) (st_d sub_all) (fun hg => sp_buildD (zd := [.int .u8 0, .int .i64 0, .str ⟨#[]⟩, strsD [], valsD []]) (es := [(0, D.int .u8 (5)), (3, strsD ([⟨#[97]⟩, ⟨#[98]⟩])), (4, valsD ([V.mk (2) (1) (⟨#[]⟩) ([]) ([]), V.mk (3) (0) (⟨#[120]⟩) ([]) ([])]))]) Try.underlying33 z33 (pl33 Try.underlying33) ⟨rfl, Has.cst.int, ⟨rfl, ((hlc rfl).undE hg), ⟨rfl, ((hlc rfl).undE hg), trivial⟩⟩⟩ zV rfl (by simp [fits, width, strsD, valsD]) (by rw [V.d_eq]; rfl)) ?_
 refine .e (v := (.bool (V.beq ((objM ([Mb.mk (⟨#[98]⟩) (V.mk (3) (0) (⟨#[120]⟩) ([]) ([])), Mb.mk (⟨#[97]⟩) (V.mk (2) (1) (⟨#[]⟩) ([]) ([]))]))) (V.mk (5) (0) (⟨#[]⟩) ([⟨#[97]⟩, ⟨#[98]⟩]) ([V.mk (2) (1) (⟨#[]⟩) ([]) ([]), V.mk (3) (0) (⟨#[120]⟩) ([]) ([])]))))) rfl (hlc rfl) (fun hg => sp_call2 (φ1 := IsD (SF w [b3_8, b1_4]) (V.d ((objM ([Mb.mk (⟨#[98]⟩) (V.mk (3) (0) (⟨#[120]⟩) ([]) ([])), Mb.mk (⟨#[97]⟩) (V.mk (2) (1) (⟨#[]⟩) ([]) ([]))]))))) (φ2 := IsD (SF w [b3_8, b1_4]) (V.d (V.mk (5) (0) (⟨#[]⟩) ([⟨#[97]⟩, ⟨#[98]⟩]) ([V.mk (2) (1) (⟨#[]⟩) ([]) ([]), V.mk (3) (0) (⟨#[120]⟩) ([]) ([])])))) ent34 (((hlc rfl).undE hg).dat (rdV_in (x := (objM ([Mb.mk (⟨#[98]⟩) (V.mk (3) (0) (⟨#[120]⟩) ([]) ([])), Mb.mk (⟨#[97]⟩) (V.mk (2) (1) (⟨#[]⟩) ([]) ([]))]))) ht_v15_4 D_cn15_4 D_ci15_4 : Rd W9 (SF w [b3_8, b1_4]) (V.d ((objM ([Mb.mk (⟨#[98]⟩) (V.mk (3) (0) (⟨#[120]⟩) ([]) ([])), Mb.mk (⟨#[97]⟩) (V.mk (2) (1) (⟨#[]⟩) ([]) ([]))])))) _) sub_all) ((hlc rfl).undE hg) (fun g u1 u2 W hk hgk h1 h2 => refSame_all _ ((objM ([Mb.mk (⟨#[98]⟩) (V.mk (3) (0) (⟨#[120]⟩) ([]) ([])), Mb.mk (⟨#[97]⟩) (V.mk (2) (1) (⟨#[]⟩) ([]) ([]))]))) (V.mk (5) (0) (⟨#[]⟩) ([⟨#[97]⟩, ⟨#[98]⟩]) ([V.mk (2) (1) (⟨#[]⟩) ([]) ([]), V.mk (3) (0) (⟨#[120]⟩) ([]) ([])])) (Nat.le_refl _) (by first | omega | exact Nat.le_of_ble_eq_true (by kernel_rfl)) W _ _ _ h1 h2)) ?_
 refine .e rfl (hlc rfl) (fun hg => sp_not ((hlc rfl).undE hg)) ?_
 refine .i (sp_or (hlc rfl) ((hlc rfl).weak fun hq => hq)) ?_
 refine .dn fun a13 g W13 y13 zz13 hk hg hV hR hP => ?_
 obtain ⟨e39, -, -, -, -, -, -, -, -, -, -, -, -, -, -, -, -⟩ := hV
 replace e1 := ft hR e1
 replace D_cn15_4 := D_cn15_4.ext hk
 replace D_ci15_4 := D_ci15_4.ext hk
 replace e39 := e39.q
 replace own_b1_4 := own_b1_4.ext hk
 replace own_b3_8 := own_b3_8.ext hk
 replace kw := kw.x hk
 clear hR hk hg hP
 refine zn (hK12 _ _ ?_)
 refine zc e39 (fun hc => ?_) (fun hc => ?_)
 ·
  exfalso
  exact Bool.noConfusion (hc.symm.trans (by kernel_rfl : _ = false))
 refine wp_skip (hK11 _ _ ?_)
 refine zq fun K14 hK14 => ?_
 refine rg mixed y13 zz13 ?_
 refine .i (v := (.agg #[(.int .u8 ((objM ([Mb.mk (⟨#[98]⟩) (V.mk (3) (0) (⟨#[120]⟩) ([]) ([])), Mb.mk (⟨#[97]⟩) (V.mk (2) (1) (⟨#[]⟩) ([]) ([]))])).k)), (.int .i64 ((objM ([Mb.mk (⟨#[98]⟩) (V.mk (3) (0) (⟨#[120]⟩) ([]) ([])), Mb.mk (⟨#[97]⟩) (V.mk (2) (1) (⟨#[]⟩) ([]) ([]))])).n)), (.string ((objM ([Mb.mk (⟨#[98]⟩) (V.mk (3) (0) (⟨#[120]⟩) ([]) ([])), Mb.mk (⟨#[97]⟩) (V.mk (2) (1) (⟨#[]⟩) ([]) ([]))])).t)), (.slice cn15_4a (((objM ([Mb.mk (⟨#[98]⟩) (V.mk (3) (0) (⟨#[120]⟩) ([]) ([])), Mb.mk (⟨#[97]⟩) (V.mk (2) (1) (⟨#[]⟩) ([]) ([]))])).ns).length) cn15_4c), (.slice ci15_4a (((objM ([Mb.mk (⟨#[98]⟩) (V.mk (3) (0) (⟨#[120]⟩) ([]) ([])), Mb.mk (⟨#[97]⟩) (V.mk (2) (1) (⟨#[]⟩) ([]) ([]))])).xs).length) ci15_4c)])) (loA (hbs rfl e1) own_b1_4 trivial agg33 sz33 rfl rfl) ?_
 refine .op (φ := IsPk W13 74 ((objM ([Mb.mk (⟨#[98]⟩) (V.mk (3) (0) (⟨#[120]⟩) ([]) ([])), Mb.mk (⟨#[97]⟩) (V.mk (2) (1) (⟨#[]⟩) ([]) ([]))]))) ([]) (0)) st_pk (sp_call1 (φ1 := IsD (SF w [b3_8, b1_4]) (V.d ((objM ([Mb.mk (⟨#[98]⟩) (V.mk (3) (0) (⟨#[120]⟩) ([]) ([])), Mb.mk (⟨#[97]⟩) (V.mk (2) (1) (⟨#[]⟩) ([]) ([]))]))))) ent21 ((hlc rfl).dat (rdV_in (x := (objM ([Mb.mk (⟨#[98]⟩) (V.mk (3) (0) (⟨#[120]⟩) ([]) ([])), Mb.mk (⟨#[97]⟩) (V.mk (2) (1) (⟨#[]⟩) ([]) ([]))]))) ht_v15_4 D_cn15_4 D_ci15_4 : Rd W13 (SF w [b3_8, b1_4]) (V.d ((objM ([Mb.mk (⟨#[98]⟩) (V.mk (3) (0) (⟨#[120]⟩) ([]) ([])), Mb.mk (⟨#[97]⟩) (V.mk (2) (1) (⟨#[]⟩) ([]) ([]))])))) _) sub_all) (fun g u1 W hk hgk h1 => (Of_ok ((objM ([Mb.mk (⟨#[98]⟩) (V.mk (3) (0) (⟨#[120]⟩) ([]) ([])), Mb.mk (⟨#[97]⟩) (V.mk (2) (1) (⟨#[]⟩) ([]) ([]))]))) (Nat.le_of_ble_eq_true (by kernel_rfl)) (by kernel_rfl) W _ _ (fun b o h => h.1.2.1) h1).mono (fun _ _ ⟨v, h1, h2, h3⟩ => ⟨v, h1, h2, pk_up hk h3⟩))) ?_
 refine .dn fun a15 g W15 y15 zz15 hk hg hV hR hP => ?_
 obtain ⟨e41, -, -⟩ := hV
 replace e1 := ft hR e1
 obtain ⟨bo41_15, bm41_15, cn41_15v, ci41_15v, e41, lr_bo41_15, lr_bm41_15, ne_bo41_15_bm41_15, own_bo41_15, own_bm41_15, D_cn41_15, D_ci41_15, tb41_15⟩ := e41
 obtain ⟨cn41_15a, cn41_15c, ev, D2⟩ := rdS_out D_cn41_15; subst ev; replace D_cn41_15 := D2; clear D2
 obtain ⟨ci41_15a, ci41_15c, ev, D2⟩ := rdVs_out D_ci41_15; subst ev; replace D_ci41_15 := D2; clear D2
 have e41 : sl a15 41 = (.pointer (some ⟨bo41_15, 0, none⟩)) := e41
 have lo_bo41_15 : w.heap.size ≤ bo41_15 := Nat.le_trans kw.size lr_bo41_15
 have ne_b1_4_bo41_15 : b1_4 ≠ bo41_15 := Nat.ne_of_lt (Nat.lt_of_lt_of_le own_b1_4.lt lr_bo41_15)
 have ne_b3_8_bo41_15 : b3_8 ≠ bo41_15 := Nat.ne_of_lt (Nat.lt_of_lt_of_le own_b3_8.lt lr_bo41_15)
 have lo_bm41_15 : w.heap.size ≤ bm41_15 := Nat.le_trans kw.size lr_bm41_15
 have ne_b1_4_bm41_15 : b1_4 ≠ bm41_15 := Nat.ne_of_lt (Nat.lt_of_lt_of_le own_b1_4.lt lr_bm41_15)
 have ne_b3_8_bm41_15 : b3_8 ≠ bm41_15 := Nat.ne_of_lt (Nat.lt_of_lt_of_le own_b3_8.lt lr_bm41_15)
 replace D_cn15_4 : Rd W15 (SF w [bo41_15, bm41_15, b3_8, b1_4]) (strsD ((objM ([Mb.mk (⟨#[98]⟩) (V.mk (3) (0) (⟨#[120]⟩) ([]) ([])), Mb.mk (⟨#[97]⟩) (V.mk (2) (1) (⟨#[]⟩) ([]) ([]))])).ns)) (.slice cn15_4a (((objM ([Mb.mk (⟨#[98]⟩) (V.mk (3) (0) (⟨#[120]⟩) ([]) ([])), Mb.mk (⟨#[97]⟩) (V.mk (2) (1) (⟨#[]⟩) ([]) ([]))])).ns).length) cn15_4c) := sf_more D_cn15_4 hk [bo41_15, bm41_15] (in_cons lr_bo41_15 (in_cons lr_bm41_15 in_nil))
 replace D_ci15_4 : Rd W15 (SF w [bo41_15, bm41_15, b3_8, b1_4]) (valsD ((objM ([Mb.mk (⟨#[98]⟩) (V.mk (3) (0) (⟨#[120]⟩) ([]) ([])), Mb.mk (⟨#[97]⟩) (V.mk (2) (1) (⟨#[]⟩) ([]) ([]))])).xs)) (.slice ci15_4a (((objM ([Mb.mk (⟨#[98]⟩) (V.mk (3) (0) (⟨#[120]⟩) ([]) ([])), Mb.mk (⟨#[97]⟩) (V.mk (2) (1) (⟨#[]⟩) ([]) ([]))])).xs).length) ci15_4c) := sf_more D_ci15_4 hk [bo41_15, bm41_15] (in_cons lr_bo41_15 (in_cons lr_bm41_15 in_nil))
 replace D_cn41_15 : Rd W15 (SF w [bo41_15, bm41_15, b3_8, b1_4]) (strsD ((objM ([Mb.mk (⟨#[98]⟩) (V.mk (3) (0) (⟨#[120]⟩) ([]) ([])), Mb.mk (⟨#[97]⟩) (V.mk (2) (1) (⟨#[]⟩) ([]) ([]))])).ns)) (.slice cn41_15a (((objM ([Mb.mk (⟨#[98]⟩) (V.mk (3) (0) (⟨#[120]⟩) ([]) ([])), Mb.mk (⟨#[97]⟩) (V.mk (2) (1) (⟨#[]⟩) ([]) ([]))])).ns).length) cn41_15c) := pk_data kw (in_cons own_b3_8.lt (in_cons own_b1_4.lt in_nil)) D_cn41_15
 replace D_ci41_15 : Rd W15 (SF w [bo41_15, bm41_15, b3_8, b1_4]) (valsD ((objM ([Mb.mk (⟨#[98]⟩) (V.mk (3) (0) (⟨#[120]⟩) ([]) ([])), Mb.mk (⟨#[97]⟩) (V.mk (2) (1) (⟨#[]⟩) ([]) ([]))])).xs)) (.slice ci41_15a (((objM ([Mb.mk (⟨#[98]⟩) (V.mk (3) (0) (⟨#[120]⟩) ([]) ([])), Mb.mk (⟨#[97]⟩) (V.mk (2) (1) (⟨#[]⟩) ([]) ([]))])).xs).length) ci41_15c) := pk_data kw (in_cons own_b3_8.lt (in_cons own_b1_4.lt in_nil)) D_ci41_15
 have own_bo41_15 : Own W15 bo41_15 [(.int .u8 ((objM ([Mb.mk (⟨#[98]⟩) (V.mk (3) (0) (⟨#[120]⟩) ([]) ([])), Mb.mk (⟨#[97]⟩) (V.mk (2) (1) (⟨#[]⟩) ([]) ([]))])).k)), (.int .i64 ((objM ([Mb.mk (⟨#[98]⟩) (V.mk (3) (0) (⟨#[120]⟩) ([]) ([])), Mb.mk (⟨#[97]⟩) (V.mk (2) (1) (⟨#[]⟩) ([]) ([]))])).n)), (.string ((objM ([Mb.mk (⟨#[98]⟩) (V.mk (3) (0) (⟨#[120]⟩) ([]) ([])), Mb.mk (⟨#[97]⟩) (V.mk (2) (1) (⟨#[]⟩) ([]) ([]))])).t)), (.slice cn41_15a (((objM ([Mb.mk (⟨#[98]⟩) (V.mk (3) (0) (⟨#[120]⟩) ([]) ([])), Mb.mk (⟨#[97]⟩) (V.mk (2) (1) (⟨#[]⟩) ([]) ([]))])).ns).length) cn41_15c), (.slice ci41_15a (((objM ([Mb.mk (⟨#[98]⟩) (V.mk (3) (0) (⟨#[120]⟩) ([]) ([])), Mb.mk (⟨#[97]⟩) (V.mk (2) (1) (⟨#[]⟩) ([]) ([]))])).xs).length) ci41_15c), (.map (some bm41_15)), (.int .i64 (0))] 74 := own_bo41_15
 have own_bm41_15 : OwnM W15 bm41_15 ([]) := own_bm41_15
 replace own_b1_4 := own_b1_4.ext hk
 replace own_b3_8 := own_b3_8.ext hk
 replace kw := kw.x hk
 clear hR hk hg hP lr_bo41_15 lr_bm41_15
 refine tail_assign (v := (.pointer (some ⟨bo41_15, 0, none⟩))) e41 (by rw [y15]; exact Nat.le_of_ble_eq_true rfl) (fun a16 y16 zz16 e5 hr => ?_)
 replace y16 := y16.trans y15; replace zz16 := zz16.trans zz15
 replace e1 := (hr 1 (by decide)).trans e1
 replace e41 := (hr 41 (by decide)).trans e41
 clear hr
 refine zn (hK14 _ _ ?_)
 refine zq fun K17 hK17 => ?_
 refine zq fun K18 hK18 => ?_
 refine wp_reg (fun k => k ∉ [bo41_15, bm41_15]) (Ψ := fun W => Own W bo41_15 [(.int .u8 ((objM ([Mb.mk (⟨#[98]⟩) (V.mk (3) (0) (⟨#[120]⟩) ([]) ([])), Mb.mk (⟨#[97]⟩) (V.mk (2) (1) (⟨#[]⟩) ([]) ([]))])).k)), (.int .i64 ((objM ([Mb.mk (⟨#[98]⟩) (V.mk (3) (0) (⟨#[120]⟩) ([]) ([])), Mb.mk (⟨#[97]⟩) (V.mk (2) (1) (⟨#[]⟩) ([]) ([]))])).n)), (.string ((objM ([Mb.mk (⟨#[98]⟩) (V.mk (3) (0) (⟨#[120]⟩) ([]) ([])), Mb.mk (⟨#[97]⟩) (V.mk (2) (1) (⟨#[]⟩) ([]) ([]))])).t)), (.slice cn41_15a (((objM ([Mb.mk (⟨#[98]⟩) (V.mk (3) (0) (⟨#[120]⟩) ([]) ([])), Mb.mk (⟨#[97]⟩) (V.mk (2) (1) (⟨#[]⟩) ([]) ([]))])).ns).length) cn41_15c), (.slice ci41_15a (((objM ([Mb.mk (⟨#[98]⟩) (V.mk (3) (0) (⟨#[120]⟩) ([]) ([])), Mb.mk (⟨#[97]⟩) (V.mk (2) (1) (⟨#[]⟩) ([]) ([]))])).xs).length) ci41_15c), (.map (some bm41_15)), (.int .i64 (0))] 74 ∧ OwnM W bm41_15 ([])) mixed y16 zz16 (stE_and stE_own stE_ownM) ⟨own_bo41_15, own_bm41_15⟩ ?_
 refine .mb rfl e5 ?_
 refine .callL4 (φ1 := Is (.pointer (some ⟨bo41_15, 0, none⟩))) (φ2 := Is (.string (⟨#[97]⟩))) (φ3 := Is (.int .i64 (0))) (φ4 := Is (.int .i64 (9))) (φ := Is (.int .i64 (if tkB (objM ([Mb.mk (⟨#[98]⟩) (V.mk (3) (0) (⟨#[120]⟩) ([]) ([])), Mb.mk (⟨#[97]⟩) (V.mk (2) (1) (⟨#[]⟩) ([]) ([]))])) 0 ⟨#[97]⟩ (numE 0 9) then numV 0 9 (getV (objM ([Mb.mk (⟨#[98]⟩) (V.mk (3) (0) (⟨#[120]⟩) ([]) ([])), Mb.mk (⟨#[97]⟩) (V.mk (2) (1) (⟨#[]⟩) ([]) ([]))])) ⟨#[97]⟩) else 0))) (Ψ' := fun W => Own W bo41_15 [(.int .u8 ((objM ([Mb.mk (⟨#[98]⟩) (V.mk (3) (0) (⟨#[120]⟩) ([]) ([])), Mb.mk (⟨#[97]⟩) (V.mk (2) (1) (⟨#[]⟩) ([]) ([]))])).k)), (.int .i64 ((objM ([Mb.mk (⟨#[98]⟩) (V.mk (3) (0) (⟨#[120]⟩) ([]) ([])), Mb.mk (⟨#[97]⟩) (V.mk (2) (1) (⟨#[]⟩) ([]) ([]))])).n)), (.string ((objM ([Mb.mk (⟨#[98]⟩) (V.mk (3) (0) (⟨#[120]⟩) ([]) ([])), Mb.mk (⟨#[97]⟩) (V.mk (2) (1) (⟨#[]⟩) ([]) ([]))])).t)), (.slice cn41_15a (((objM ([Mb.mk (⟨#[98]⟩) (V.mk (3) (0) (⟨#[120]⟩) ([]) ([])), Mb.mk (⟨#[97]⟩) (V.mk (2) (1) (⟨#[]⟩) ([]) ([]))])).ns).length) cn41_15c), (.slice ci41_15a (((objM ([Mb.mk (⟨#[98]⟩) (V.mk (3) (0) (⟨#[120]⟩) ([]) ([])), Mb.mk (⟨#[97]⟩) (V.mk (2) (1) (⟨#[]⟩) ([]) ([]))])).xs).length) ci41_15c), (.map (some bm41_15)), (.int .i64 (tkE (objM ([Mb.mk (⟨#[98]⟩) (V.mk (3) (0) (⟨#[120]⟩) ([]) ([])), Mb.mk (⟨#[97]⟩) (V.mk (2) (1) (⟨#[]⟩) ([]) ([]))])) 0 ⟨#[97]⟩ (numE 0 9)))] 74 ∧ OwnM W bm41_15 (tkA (objM ([Mb.mk (⟨#[98]⟩) (V.mk (3) (0) (⟨#[120]⟩) ([]) ([])), Mb.mk (⟨#[97]⟩) (V.mk (2) (1) (⟨#[]⟩) ([]) ([]))])) ([]) 0 ⟨#[97]⟩ (numE 0 9))) ent44 (hlc rfl) Has.cst Has.cst Has.cst (st_is _) (stE_and stE_own stE_ownM) (fun g u1 u2 u3 u4 W hk hg h1 h2 h3 h4 hP => by have h1 : u1 = _ := h1; subst u1; have h2 : u2 = _ := h2; subst u2; have h3 : u3 = _ := h3; subst u3; have h4 : u4 = _ := h4; subst u4; exact (Num_ok ((objM ([Mb.mk (⟨#[98]⟩) (V.mk (3) (0) (⟨#[120]⟩) ([]) ([])), Mb.mk (⟨#[97]⟩) (V.mk (2) (1) (⟨#[]⟩) ([]) ([]))]))) ([]) (0) (AB.nil.mono (by omega)) (Nat.le_of_ble_eq_true (by kernel_rfl)) tb41_15 ⟨#[97]⟩ 0 9 W _ _ _ _ _ (fun b o h => h.2.1) (sf_notin (by simp)) ne_bo41_15_bm41_15 (sf_keepL D_cn41_15 hk (by simp)) (sf_keepL D_ci41_15 hk (by simp)) hP.1 hP.2)) ?_
 refine .dn fun a19 g W19 y19 zz19 hk hg hV hR hP => ?_
 obtain ⟨e43, -, -⟩ := hV
 replace e1 := ft hR e1
 replace e5 := ft hR e5
 replace e43 := e43.q
 replace D_cn15_4 := sf_keepL D_cn15_4 hk (by simp)
 replace D_ci15_4 := sf_keepL D_ci15_4 hk (by simp)
 replace D_cn41_15 := sf_keepL D_cn41_15 hk (by simp)
 replace D_ci41_15 := sf_keepL D_ci41_15 hk (by simp)
 replace own_b1_4 := own_keepL own_b1_4 hk (by simp [ne_b1_4_bo41_15, ne_b1_4_bm41_15])
 replace own_b3_8 := own_keepL own_b3_8 hk (by simp [ne_b3_8_bo41_15, ne_b3_8_bm41_15])
 obtain ⟨own_bo41_15, own_bm41_15⟩ := hP
 replace own_bo41_15 : Own W19 bo41_15 [(.int .u8 ((objM ([Mb.mk (⟨#[98]⟩) (V.mk (3) (0) (⟨#[120]⟩) ([]) ([])), Mb.mk (⟨#[97]⟩) (V.mk (2) (1) (⟨#[]⟩) ([]) ([]))])).k)), (.int .i64 ((objM ([Mb.mk (⟨#[98]⟩) (V.mk (3) (0) (⟨#[120]⟩) ([]) ([])), Mb.mk (⟨#[97]⟩) (V.mk (2) (1) (⟨#[]⟩) ([]) ([]))])).n)), (.string ((objM ([Mb.mk (⟨#[98]⟩) (V.mk (3) (0) (⟨#[120]⟩) ([]) ([])), Mb.mk (⟨#[97]⟩) (V.mk (2) (1) (⟨#[]⟩) ([]) ([]))])).t)), (.slice cn41_15a (((objM ([Mb.mk (⟨#[98]⟩) (V.mk (3) (0) (⟨#[120]⟩) ([]) ([])), Mb.mk (⟨#[97]⟩) (V.mk (2) (1) (⟨#[]⟩) ([]) ([]))])).ns).length) cn41_15c), (.slice ci41_15a (((objM ([Mb.mk (⟨#[98]⟩) (V.mk (3) (0) (⟨#[120]⟩) ([]) ([])), Mb.mk (⟨#[97]⟩) (V.mk (2) (1) (⟨#[]⟩) ([]) ([]))])).xs).length) ci41_15c), (.map (some bm41_15)), (.int .i64 (tkE (objM ([Mb.mk (⟨#[98]⟩) (V.mk (3) (0) (⟨#[120]⟩) ([]) ([])), Mb.mk (⟨#[97]⟩) (V.mk (2) (1) (⟨#[]⟩) ([]) ([]))])) 0 ⟨#[97]⟩ (numE 0 9)))] 74 := own_bo41_15
 replace own_bm41_15 : OwnM W19 bm41_15 (tkA (objM ([Mb.mk (⟨#[98]⟩) (V.mk (3) (0) (⟨#[120]⟩) ([]) ([])), Mb.mk (⟨#[97]⟩) (V.mk (2) (1) (⟨#[]⟩) ([]) ([]))])) ([]) 0 ⟨#[97]⟩ (numE 0 9)) := own_bm41_15
 replace kw := keeps_L kw hk (in_cons (.inl lo_bo41_15) (in_cons (.inl lo_bm41_15) in_nil))
 clear hR hk hg
 refine tail_reg 2 All y19 zz19 st_tr trivial rfl ?_
 refine .i (sp_neq (hbs rfl e43) Has.cst) ?_
 refine .i (sp_move (hlc rfl)) ?_
 refine .dn fun a20 g W20 y20 zz20 hk hg hV hR hP => ?_
 refine tail_nil ?_
 show runTail _ _ _ _ _ _
 obtain ⟨e45, -, -⟩ := hV
 replace e1 := ft hR e1
 replace e5 := ft hR e5
 replace D_cn15_4 := D_cn15_4.ext hk
 replace D_ci15_4 := D_ci15_4.ext hk
 replace D_cn41_15 := D_cn41_15.ext hk
 replace D_ci41_15 := D_ci41_15.ext hk
 replace e45 := e45.q
 replace own_b1_4 := own_b1_4.ext hk
 replace own_b3_8 := own_b3_8.ext hk
 replace own_bo41_15 := own_bo41_15.ext hk
 replace own_bm41_15 := own_bm41_15.ext hk
 replace kw := kw.x hk
 clear hR hk hg hP
 refine tail_ung 3 45 false rfl 3 rfl (e45.trans (congrArg Value.bool (by kernel_rfl))) ?_
 refine tail_reg 5 All y20 zz20 st_tr trivial rfl ?_
 refine .mb rfl e5 ?_
 refine .i (v := (.int .i64 (doneE (objM ([Mb.mk (⟨#[98]⟩) (V.mk (3) (0) (⟨#[120]⟩) ([]) ([])), Mb.mk (⟨#[97]⟩) (V.mk (2) (1) (⟨#[]⟩) ([]) ([]))])) (tkA (objM ([Mb.mk (⟨#[98]⟩) (V.mk (3) (0) (⟨#[120]⟩) ([]) ([])), Mb.mk (⟨#[97]⟩) (V.mk (2) (1) (⟨#[]⟩) ([]) ([]))])) ([]) 0 ⟨#[97]⟩ (numE 0 9)) (tkE (objM ([Mb.mk (⟨#[98]⟩) (V.mk (3) (0) (⟨#[120]⟩) ([]) ([])), Mb.mk (⟨#[97]⟩) (V.mk (2) (1) (⟨#[]⟩) ([]) ([]))])) 0 ⟨#[97]⟩ (numE 0 9))))) (sp_call1 (φ1 := Is (.pointer (some ⟨bo41_15, 0, none⟩))) ent32 (hlc rfl) (fun g u1 W hk hgk h1 => by have h1 : u1 = _ := h1; subst u1; exact Done_ok ((objM ([Mb.mk (⟨#[98]⟩) (V.mk (3) (0) (⟨#[120]⟩) ([]) ([])), Mb.mk (⟨#[97]⟩) (V.mk (2) (1) (⟨#[]⟩) ([]) ([]))]))) (tkA (objM ([Mb.mk (⟨#[98]⟩) (V.mk (3) (0) (⟨#[120]⟩) ([]) ([])), Mb.mk (⟨#[97]⟩) (V.mk (2) (1) (⟨#[]⟩) ([]) ([]))])) ([]) 0 ⟨#[97]⟩ (numE 0 9)) (tkE (objM ([Mb.mk (⟨#[98]⟩) (V.mk (3) (0) (⟨#[120]⟩) ([]) ([])), Mb.mk (⟨#[97]⟩) (V.mk (2) (1) (⟨#[]⟩) ([]) ([]))])) 0 ⟨#[97]⟩ (numE 0 9)) W _ _ _ _ _ (D_cn41_15.ext hk) (own_bo41_15.ext hk) (own_bm41_15.ext hk))) ?_
 refine .i (sp_neq (hlc rfl) Has.cst) ?_
 refine .i (sp_or (hbs rfl e45) ((hlc rfl).toU)) ?_
 refine .i (sp_move (hlc rfl)) ?_
 refine .dn fun a21 g W21 y21 zz21 hk hg hV hR hP => ?_
 refine tail_nil ?_
 show runTail _ _ _ _ _ _
 obtain ⟨e50, -, -, -, -, -⟩ := hV
 replace e1 := ft hR e1
 replace e5 := ft hR e5
 replace D_cn15_4 := D_cn15_4.ext hk
 replace D_ci15_4 := D_ci15_4.ext hk
 replace D_cn41_15 := D_cn41_15.ext hk
 replace D_ci41_15 := D_ci41_15.ext hk
 replace e50 := e50.q
 replace own_b1_4 := own_b1_4.ext hk
 replace own_b3_8 := own_b3_8.ext hk
 replace own_bo41_15 := own_bo41_15.ext hk
 replace own_bm41_15 := own_bm41_15.ext hk
 replace kw := kw.x hk
 clear hR hk hg hP
 refine tail_ung 8 50 false rfl 3 rfl (e50.trans (congrArg Value.bool (by kernel_rfl))) ?_
 refine tail_reg 2 (fun k => k ∉ [bo41_15, bm41_15]) (Ψ := fun W => Own W bo41_15 [(.int .u8 ((objM ([Mb.mk (⟨#[98]⟩) (V.mk (3) (0) (⟨#[120]⟩) ([]) ([])), Mb.mk (⟨#[97]⟩) (V.mk (2) (1) (⟨#[]⟩) ([]) ([]))])).k)), (.int .i64 ((objM ([Mb.mk (⟨#[98]⟩) (V.mk (3) (0) (⟨#[120]⟩) ([]) ([])), Mb.mk (⟨#[97]⟩) (V.mk (2) (1) (⟨#[]⟩) ([]) ([]))])).n)), (.string ((objM ([Mb.mk (⟨#[98]⟩) (V.mk (3) (0) (⟨#[120]⟩) ([]) ([])), Mb.mk (⟨#[97]⟩) (V.mk (2) (1) (⟨#[]⟩) ([]) ([]))])).t)), (.slice cn41_15a (((objM ([Mb.mk (⟨#[98]⟩) (V.mk (3) (0) (⟨#[120]⟩) ([]) ([])), Mb.mk (⟨#[97]⟩) (V.mk (2) (1) (⟨#[]⟩) ([]) ([]))])).ns).length) cn41_15c), (.slice ci41_15a (((objM ([Mb.mk (⟨#[98]⟩) (V.mk (3) (0) (⟨#[120]⟩) ([]) ([])), Mb.mk (⟨#[97]⟩) (V.mk (2) (1) (⟨#[]⟩) ([]) ([]))])).xs).length) ci41_15c), (.map (some bm41_15)), (.int .i64 (tkE (objM ([Mb.mk (⟨#[98]⟩) (V.mk (3) (0) (⟨#[120]⟩) ([]) ([])), Mb.mk (⟨#[97]⟩) (V.mk (2) (1) (⟨#[]⟩) ([]) ([]))])) 0 ⟨#[97]⟩ (numE 0 9)))] 74 ∧ OwnM W bm41_15 (tkA (objM ([Mb.mk (⟨#[98]⟩) (V.mk (3) (0) (⟨#[120]⟩) ([]) ([])), Mb.mk (⟨#[97]⟩) (V.mk (2) (1) (⟨#[]⟩) ([]) ([]))])) ([]) 0 ⟨#[97]⟩ (numE 0 9))) y21 zz21 (stE_and stE_own stE_ownM) ⟨own_bo41_15, own_bm41_15⟩ rfl ?_
 refine .mb rfl e5 ?_
 refine .callL2 (φ1 := Is (.pointer (some ⟨bo41_15, 0, none⟩))) (φ2 := Is (.string (⟨#[98]⟩))) (φ := Is (.string (if tkB (objM ([Mb.mk (⟨#[98]⟩) (V.mk (3) (0) (⟨#[120]⟩) ([]) ([])), Mb.mk (⟨#[97]⟩) (V.mk (2) (1) (⟨#[]⟩) ([]) ([]))])) (tkE (objM ([Mb.mk (⟨#[98]⟩) (V.mk (3) (0) (⟨#[120]⟩) ([]) ([])), Mb.mk (⟨#[97]⟩) (V.mk (2) (1) (⟨#[]⟩) ([]) ([]))])) 0 ⟨#[97]⟩ (numE 0 9)) ⟨#[98]⟩ textE then textV (getV (objM ([Mb.mk (⟨#[98]⟩) (V.mk (3) (0) (⟨#[120]⟩) ([]) ([])), Mb.mk (⟨#[97]⟩) (V.mk (2) (1) (⟨#[]⟩) ([]) ([]))])) ⟨#[98]⟩) else ⟨#[]⟩))) (Ψ' := fun W => Own W bo41_15 [(.int .u8 ((objM ([Mb.mk (⟨#[98]⟩) (V.mk (3) (0) (⟨#[120]⟩) ([]) ([])), Mb.mk (⟨#[97]⟩) (V.mk (2) (1) (⟨#[]⟩) ([]) ([]))])).k)), (.int .i64 ((objM ([Mb.mk (⟨#[98]⟩) (V.mk (3) (0) (⟨#[120]⟩) ([]) ([])), Mb.mk (⟨#[97]⟩) (V.mk (2) (1) (⟨#[]⟩) ([]) ([]))])).n)), (.string ((objM ([Mb.mk (⟨#[98]⟩) (V.mk (3) (0) (⟨#[120]⟩) ([]) ([])), Mb.mk (⟨#[97]⟩) (V.mk (2) (1) (⟨#[]⟩) ([]) ([]))])).t)), (.slice cn41_15a (((objM ([Mb.mk (⟨#[98]⟩) (V.mk (3) (0) (⟨#[120]⟩) ([]) ([])), Mb.mk (⟨#[97]⟩) (V.mk (2) (1) (⟨#[]⟩) ([]) ([]))])).ns).length) cn41_15c), (.slice ci41_15a (((objM ([Mb.mk (⟨#[98]⟩) (V.mk (3) (0) (⟨#[120]⟩) ([]) ([])), Mb.mk (⟨#[97]⟩) (V.mk (2) (1) (⟨#[]⟩) ([]) ([]))])).xs).length) ci41_15c), (.map (some bm41_15)), (.int .i64 (tkE (objM ([Mb.mk (⟨#[98]⟩) (V.mk (3) (0) (⟨#[120]⟩) ([]) ([])), Mb.mk (⟨#[97]⟩) (V.mk (2) (1) (⟨#[]⟩) ([]) ([]))])) (tkE (objM ([Mb.mk (⟨#[98]⟩) (V.mk (3) (0) (⟨#[120]⟩) ([]) ([])), Mb.mk (⟨#[97]⟩) (V.mk (2) (1) (⟨#[]⟩) ([]) ([]))])) 0 ⟨#[97]⟩ (numE 0 9)) ⟨#[98]⟩ textE))] 74 ∧ OwnM W bm41_15 (tkA (objM ([Mb.mk (⟨#[98]⟩) (V.mk (3) (0) (⟨#[120]⟩) ([]) ([])), Mb.mk (⟨#[97]⟩) (V.mk (2) (1) (⟨#[]⟩) ([]) ([]))])) (tkA (objM ([Mb.mk (⟨#[98]⟩) (V.mk (3) (0) (⟨#[120]⟩) ([]) ([])), Mb.mk (⟨#[97]⟩) (V.mk (2) (1) (⟨#[]⟩) ([]) ([]))])) ([]) 0 ⟨#[97]⟩ (numE 0 9)) (tkE (objM ([Mb.mk (⟨#[98]⟩) (V.mk (3) (0) (⟨#[120]⟩) ([]) ([])), Mb.mk (⟨#[97]⟩) (V.mk (2) (1) (⟨#[]⟩) ([]) ([]))])) 0 ⟨#[97]⟩ (numE 0 9)) ⟨#[98]⟩ textE)) ent43 (hlc rfl) Has.cst (st_is _) (stE_and stE_own stE_ownM) (fun g u1 u2 W hk hg h1 h2 hP => by have h1 : u1 = _ := h1; subst u1; have h2 : u2 = _ := h2; subst u2; exact (Text_ok ((objM ([Mb.mk (⟨#[98]⟩) (V.mk (3) (0) (⟨#[120]⟩) ([]) ([])), Mb.mk (⟨#[97]⟩) (V.mk (2) (1) (⟨#[]⟩) ([]) ([]))]))) (tkA (objM ([Mb.mk (⟨#[98]⟩) (V.mk (3) (0) (⟨#[120]⟩) ([]) ([])), Mb.mk (⟨#[97]⟩) (V.mk (2) (1) (⟨#[]⟩) ([]) ([]))])) ([]) 0 ⟨#[97]⟩ (numE 0 9)) (tkE (objM ([Mb.mk (⟨#[98]⟩) (V.mk (3) (0) (⟨#[120]⟩) ([]) ([])), Mb.mk (⟨#[97]⟩) (V.mk (2) (1) (⟨#[]⟩) ([]) ([]))])) 0 ⟨#[97]⟩ (numE 0 9)) (AB.nil.tk.mono (by omega)) (Nat.le_of_ble_eq_true (by kernel_rfl)) tb41_15 ⟨#[98]⟩ W _ _ _ _ _ (fun b o h => h.2.1) (sf_notin (by simp)) ne_bo41_15_bm41_15 (sf_keepL D_cn41_15 hk (by simp)) (sf_keepL D_ci41_15 hk (by simp)) hP.1 hP.2)) ?_
 refine .dn fun a22 g W22 y22 zz22 hk hg hV hR hP => ?_
 refine tail_nil ?_
 show runTail _ _ _ _ _ _
 obtain ⟨e52, -, -⟩ := hV
 replace e1 := ft hR e1
 replace e5 := ft hR e5
 replace e50 := ft hR e50
 replace e52 := e52.q
 replace D_cn15_4 := sf_keepL D_cn15_4 hk (by simp)
 replace D_ci15_4 := sf_keepL D_ci15_4 hk (by simp)
 replace D_cn41_15 := sf_keepL D_cn41_15 hk (by simp)
 replace D_ci41_15 := sf_keepL D_ci41_15 hk (by simp)
 replace own_b1_4 := own_keepL own_b1_4 hk (by simp [ne_b1_4_bo41_15, ne_b1_4_bm41_15])
 replace own_b3_8 := own_keepL own_b3_8 hk (by simp [ne_b3_8_bo41_15, ne_b3_8_bm41_15])
 obtain ⟨own_bo41_15, own_bm41_15⟩ := hP
 replace own_bo41_15 : Own W22 bo41_15 [(.int .u8 ((objM ([Mb.mk (⟨#[98]⟩) (V.mk (3) (0) (⟨#[120]⟩) ([]) ([])), Mb.mk (⟨#[97]⟩) (V.mk (2) (1) (⟨#[]⟩) ([]) ([]))])).k)), (.int .i64 ((objM ([Mb.mk (⟨#[98]⟩) (V.mk (3) (0) (⟨#[120]⟩) ([]) ([])), Mb.mk (⟨#[97]⟩) (V.mk (2) (1) (⟨#[]⟩) ([]) ([]))])).n)), (.string ((objM ([Mb.mk (⟨#[98]⟩) (V.mk (3) (0) (⟨#[120]⟩) ([]) ([])), Mb.mk (⟨#[97]⟩) (V.mk (2) (1) (⟨#[]⟩) ([]) ([]))])).t)), (.slice cn41_15a (((objM ([Mb.mk (⟨#[98]⟩) (V.mk (3) (0) (⟨#[120]⟩) ([]) ([])), Mb.mk (⟨#[97]⟩) (V.mk (2) (1) (⟨#[]⟩) ([]) ([]))])).ns).length) cn41_15c), (.slice ci41_15a (((objM ([Mb.mk (⟨#[98]⟩) (V.mk (3) (0) (⟨#[120]⟩) ([]) ([])), Mb.mk (⟨#[97]⟩) (V.mk (2) (1) (⟨#[]⟩) ([]) ([]))])).xs).length) ci41_15c), (.map (some bm41_15)), (.int .i64 (tkE (objM ([Mb.mk (⟨#[98]⟩) (V.mk (3) (0) (⟨#[120]⟩) ([]) ([])), Mb.mk (⟨#[97]⟩) (V.mk (2) (1) (⟨#[]⟩) ([]) ([]))])) (tkE (objM ([Mb.mk (⟨#[98]⟩) (V.mk (3) (0) (⟨#[120]⟩) ([]) ([])), Mb.mk (⟨#[97]⟩) (V.mk (2) (1) (⟨#[]⟩) ([]) ([]))])) 0 ⟨#[97]⟩ (numE 0 9)) ⟨#[98]⟩ textE))] 74 := own_bo41_15
 replace own_bm41_15 : OwnM W22 bm41_15 (tkA (objM ([Mb.mk (⟨#[98]⟩) (V.mk (3) (0) (⟨#[120]⟩) ([]) ([])), Mb.mk (⟨#[97]⟩) (V.mk (2) (1) (⟨#[]⟩) ([]) ([]))])) (tkA (objM ([Mb.mk (⟨#[98]⟩) (V.mk (3) (0) (⟨#[120]⟩) ([]) ([])), Mb.mk (⟨#[97]⟩) (V.mk (2) (1) (⟨#[]⟩) ([]) ([]))])) ([]) 0 ⟨#[97]⟩ (numE 0 9)) (tkE (objM ([Mb.mk (⟨#[98]⟩) (V.mk (3) (0) (⟨#[120]⟩) ([]) ([])), Mb.mk (⟨#[97]⟩) (V.mk (2) (1) (⟨#[]⟩) ([]) ([]))])) 0 ⟨#[97]⟩ (numE 0 9)) ⟨#[98]⟩ textE) := own_bm41_15
 replace kw := keeps_L kw hk (in_cons (.inl lo_bo41_15) (in_cons (.inl lo_bm41_15) in_nil))
 clear hR hk hg
 refine tail_reg 3 All y22 zz22 st_tr trivial rfl ?_
 refine .i (sp_sNeq (hbs rfl e52) Has.cst) ?_
 refine .i (sp_or (hbs rfl e50) ((hlc rfl).toU)) ?_
 refine .i (sp_move (hlc rfl)) ?_
 refine .dn fun a23 g W23 y23 zz23 hk hg hV hR hP => ?_
 refine tail_nil ?_
 show runTail _ _ _ _ _ _
 obtain ⟨e55, -, -, -⟩ := hV
 replace e1 := ft hR e1
 replace e5 := ft hR e5
 replace D_cn15_4 := D_cn15_4.ext hk
 replace D_ci15_4 := D_ci15_4.ext hk
 replace D_cn41_15 := D_cn41_15.ext hk
 replace D_ci41_15 := D_ci41_15.ext hk
 replace e55 := e55.q
 replace own_b1_4 := own_b1_4.ext hk
 replace own_b3_8 := own_b3_8.ext hk
 replace own_bo41_15 := own_bo41_15.ext hk
 replace own_bm41_15 := own_bm41_15.ext hk
 replace kw := kw.x hk
 clear hR hk hg hP
 refine tail_ung 13 55 false rfl 3 rfl (e55.trans (congrArg Value.bool (by kernel_rfl))) ?_
 refine tail_reg 5 All y23 zz23 st_tr trivial rfl ?_
 refine .mb rfl e5 ?_
 refine .i (v := (.int .i64 (doneE (objM ([Mb.mk (⟨#[98]⟩) (V.mk (3) (0) (⟨#[120]⟩) ([]) ([])), Mb.mk (⟨#[97]⟩) (V.mk (2) (1) (⟨#[]⟩) ([]) ([]))])) (tkA (objM ([Mb.mk (⟨#[98]⟩) (V.mk (3) (0) (⟨#[120]⟩) ([]) ([])), Mb.mk (⟨#[97]⟩) (V.mk (2) (1) (⟨#[]⟩) ([]) ([]))])) (tkA (objM ([Mb.mk (⟨#[98]⟩) (V.mk (3) (0) (⟨#[120]⟩) ([]) ([])), Mb.mk (⟨#[97]⟩) (V.mk (2) (1) (⟨#[]⟩) ([]) ([]))])) ([]) 0 ⟨#[97]⟩ (numE 0 9)) (tkE (objM ([Mb.mk (⟨#[98]⟩) (V.mk (3) (0) (⟨#[120]⟩) ([]) ([])), Mb.mk (⟨#[97]⟩) (V.mk (2) (1) (⟨#[]⟩) ([]) ([]))])) 0 ⟨#[97]⟩ (numE 0 9)) ⟨#[98]⟩ textE) (tkE (objM ([Mb.mk (⟨#[98]⟩) (V.mk (3) (0) (⟨#[120]⟩) ([]) ([])), Mb.mk (⟨#[97]⟩) (V.mk (2) (1) (⟨#[]⟩) ([]) ([]))])) (tkE (objM ([Mb.mk (⟨#[98]⟩) (V.mk (3) (0) (⟨#[120]⟩) ([]) ([])), Mb.mk (⟨#[97]⟩) (V.mk (2) (1) (⟨#[]⟩) ([]) ([]))])) 0 ⟨#[97]⟩ (numE 0 9)) ⟨#[98]⟩ textE)))) (sp_call1 (φ1 := Is (.pointer (some ⟨bo41_15, 0, none⟩))) ent32 (hlc rfl) (fun g u1 W hk hgk h1 => by have h1 : u1 = _ := h1; subst u1; exact Done_ok ((objM ([Mb.mk (⟨#[98]⟩) (V.mk (3) (0) (⟨#[120]⟩) ([]) ([])), Mb.mk (⟨#[97]⟩) (V.mk (2) (1) (⟨#[]⟩) ([]) ([]))]))) (tkA (objM ([Mb.mk (⟨#[98]⟩) (V.mk (3) (0) (⟨#[120]⟩) ([]) ([])), Mb.mk (⟨#[97]⟩) (V.mk (2) (1) (⟨#[]⟩) ([]) ([]))])) (tkA (objM ([Mb.mk (⟨#[98]⟩) (V.mk (3) (0) (⟨#[120]⟩) ([]) ([])), Mb.mk (⟨#[97]⟩) (V.mk (2) (1) (⟨#[]⟩) ([]) ([]))])) ([]) 0 ⟨#[97]⟩ (numE 0 9)) (tkE (objM ([Mb.mk (⟨#[98]⟩) (V.mk (3) (0) (⟨#[120]⟩) ([]) ([])), Mb.mk (⟨#[97]⟩) (V.mk (2) (1) (⟨#[]⟩) ([]) ([]))])) 0 ⟨#[97]⟩ (numE 0 9)) ⟨#[98]⟩ textE) (tkE (objM ([Mb.mk (⟨#[98]⟩) (V.mk (3) (0) (⟨#[120]⟩) ([]) ([])), Mb.mk (⟨#[97]⟩) (V.mk (2) (1) (⟨#[]⟩) ([]) ([]))])) (tkE (objM ([Mb.mk (⟨#[98]⟩) (V.mk (3) (0) (⟨#[120]⟩) ([]) ([])), Mb.mk (⟨#[97]⟩) (V.mk (2) (1) (⟨#[]⟩) ([]) ([]))])) 0 ⟨#[97]⟩ (numE 0 9)) ⟨#[98]⟩ textE) W _ _ _ _ _ (D_cn41_15.ext hk) (own_bo41_15.ext hk) (own_bm41_15.ext hk))) ?_
 refine .i (sp_neq (hlc rfl) Has.cst) ?_
 refine .i (sp_or (hbs rfl e55) ((hlc rfl).toU)) ?_
 refine .i (sp_move (hlc rfl)) ?_
 refine .dn fun a24 g W24 y24 zz24 hk hg hV hR hP => ?_
 refine tail_nil ?_
 show runTail _ _ _ _ _ _
 obtain ⟨e60, -, -, -, -, -⟩ := hV
 replace e1 := ft hR e1
 replace e5 := ft hR e5
 replace D_cn15_4 := D_cn15_4.ext hk
 replace D_ci15_4 := D_ci15_4.ext hk
 replace D_cn41_15 := D_cn41_15.ext hk
 replace D_ci41_15 := D_ci41_15.ext hk
 replace e60 := e60.q
 replace own_b1_4 := own_b1_4.ext hk
 replace own_b3_8 := own_b3_8.ext hk
 replace own_bo41_15 := own_bo41_15.ext hk
 replace own_bm41_15 := own_bm41_15.ext hk
 replace kw := kw.x hk
 clear hR hk hg hP
 refine tail_ung 18 60 false rfl 3 rfl (e60.trans (congrArg Value.bool (by kernel_rfl))) ?_
 refine tail_reg 2 (fun k => k ∉ [bo41_15, bm41_15]) (Ψ := fun W => Own W bo41_15 [(.int .u8 ((objM ([Mb.mk (⟨#[98]⟩) (V.mk (3) (0) (⟨#[120]⟩) ([]) ([])), Mb.mk (⟨#[97]⟩) (V.mk (2) (1) (⟨#[]⟩) ([]) ([]))])).k)), (.int .i64 ((objM ([Mb.mk (⟨#[98]⟩) (V.mk (3) (0) (⟨#[120]⟩) ([]) ([])), Mb.mk (⟨#[97]⟩) (V.mk (2) (1) (⟨#[]⟩) ([]) ([]))])).n)), (.string ((objM ([Mb.mk (⟨#[98]⟩) (V.mk (3) (0) (⟨#[120]⟩) ([]) ([])), Mb.mk (⟨#[97]⟩) (V.mk (2) (1) (⟨#[]⟩) ([]) ([]))])).t)), (.slice cn41_15a (((objM ([Mb.mk (⟨#[98]⟩) (V.mk (3) (0) (⟨#[120]⟩) ([]) ([])), Mb.mk (⟨#[97]⟩) (V.mk (2) (1) (⟨#[]⟩) ([]) ([]))])).ns).length) cn41_15c), (.slice ci41_15a (((objM ([Mb.mk (⟨#[98]⟩) (V.mk (3) (0) (⟨#[120]⟩) ([]) ([])), Mb.mk (⟨#[97]⟩) (V.mk (2) (1) (⟨#[]⟩) ([]) ([]))])).xs).length) ci41_15c), (.map (some bm41_15)), (.int .i64 (tkE (objM ([Mb.mk (⟨#[98]⟩) (V.mk (3) (0) (⟨#[120]⟩) ([]) ([])), Mb.mk (⟨#[97]⟩) (V.mk (2) (1) (⟨#[]⟩) ([]) ([]))])) (tkE (objM ([Mb.mk (⟨#[98]⟩) (V.mk (3) (0) (⟨#[120]⟩) ([]) ([])), Mb.mk (⟨#[97]⟩) (V.mk (2) (1) (⟨#[]⟩) ([]) ([]))])) 0 ⟨#[97]⟩ (numE 0 9)) ⟨#[98]⟩ textE))] 74 ∧ OwnM W bm41_15 (tkA (objM ([Mb.mk (⟨#[98]⟩) (V.mk (3) (0) (⟨#[120]⟩) ([]) ([])), Mb.mk (⟨#[97]⟩) (V.mk (2) (1) (⟨#[]⟩) ([]) ([]))])) (tkA (objM ([Mb.mk (⟨#[98]⟩) (V.mk (3) (0) (⟨#[120]⟩) ([]) ([])), Mb.mk (⟨#[97]⟩) (V.mk (2) (1) (⟨#[]⟩) ([]) ([]))])) ([]) 0 ⟨#[97]⟩ (numE 0 9)) (tkE (objM ([Mb.mk (⟨#[98]⟩) (V.mk (3) (0) (⟨#[120]⟩) ([]) ([])), Mb.mk (⟨#[97]⟩) (V.mk (2) (1) (⟨#[]⟩) ([]) ([]))])) 0 ⟨#[97]⟩ (numE 0 9)) ⟨#[98]⟩ textE)) y24 zz24 (stE_and stE_own stE_ownM) ⟨own_bo41_15, own_bm41_15⟩ rfl ?_
 refine .mb rfl e5 ?_
 refine .callL2 (φ1 := Is (.pointer (some ⟨bo41_15, 0, none⟩))) (φ2 := Is (.string (⟨#[99]⟩))) (φ := Is (.string (if tkB (objM ([Mb.mk (⟨#[98]⟩) (V.mk (3) (0) (⟨#[120]⟩) ([]) ([])), Mb.mk (⟨#[97]⟩) (V.mk (2) (1) (⟨#[]⟩) ([]) ([]))])) (tkE (objM ([Mb.mk (⟨#[98]⟩) (V.mk (3) (0) (⟨#[120]⟩) ([]) ([])), Mb.mk (⟨#[97]⟩) (V.mk (2) (1) (⟨#[]⟩) ([]) ([]))])) (tkE (objM ([Mb.mk (⟨#[98]⟩) (V.mk (3) (0) (⟨#[120]⟩) ([]) ([])), Mb.mk (⟨#[97]⟩) (V.mk (2) (1) (⟨#[]⟩) ([]) ([]))])) 0 ⟨#[97]⟩ (numE 0 9)) ⟨#[98]⟩ textE) ⟨#[99]⟩ textE then textV (getV (objM ([Mb.mk (⟨#[98]⟩) (V.mk (3) (0) (⟨#[120]⟩) ([]) ([])), Mb.mk (⟨#[97]⟩) (V.mk (2) (1) (⟨#[]⟩) ([]) ([]))])) ⟨#[99]⟩) else ⟨#[]⟩))) (Ψ' := fun W => Own W bo41_15 [(.int .u8 ((objM ([Mb.mk (⟨#[98]⟩) (V.mk (3) (0) (⟨#[120]⟩) ([]) ([])), Mb.mk (⟨#[97]⟩) (V.mk (2) (1) (⟨#[]⟩) ([]) ([]))])).k)), (.int .i64 ((objM ([Mb.mk (⟨#[98]⟩) (V.mk (3) (0) (⟨#[120]⟩) ([]) ([])), Mb.mk (⟨#[97]⟩) (V.mk (2) (1) (⟨#[]⟩) ([]) ([]))])).n)), (.string ((objM ([Mb.mk (⟨#[98]⟩) (V.mk (3) (0) (⟨#[120]⟩) ([]) ([])), Mb.mk (⟨#[97]⟩) (V.mk (2) (1) (⟨#[]⟩) ([]) ([]))])).t)), (.slice cn41_15a (((objM ([Mb.mk (⟨#[98]⟩) (V.mk (3) (0) (⟨#[120]⟩) ([]) ([])), Mb.mk (⟨#[97]⟩) (V.mk (2) (1) (⟨#[]⟩) ([]) ([]))])).ns).length) cn41_15c), (.slice ci41_15a (((objM ([Mb.mk (⟨#[98]⟩) (V.mk (3) (0) (⟨#[120]⟩) ([]) ([])), Mb.mk (⟨#[97]⟩) (V.mk (2) (1) (⟨#[]⟩) ([]) ([]))])).xs).length) ci41_15c), (.map (some bm41_15)), (.int .i64 (tkE (objM ([Mb.mk (⟨#[98]⟩) (V.mk (3) (0) (⟨#[120]⟩) ([]) ([])), Mb.mk (⟨#[97]⟩) (V.mk (2) (1) (⟨#[]⟩) ([]) ([]))])) (tkE (objM ([Mb.mk (⟨#[98]⟩) (V.mk (3) (0) (⟨#[120]⟩) ([]) ([])), Mb.mk (⟨#[97]⟩) (V.mk (2) (1) (⟨#[]⟩) ([]) ([]))])) (tkE (objM ([Mb.mk (⟨#[98]⟩) (V.mk (3) (0) (⟨#[120]⟩) ([]) ([])), Mb.mk (⟨#[97]⟩) (V.mk (2) (1) (⟨#[]⟩) ([]) ([]))])) 0 ⟨#[97]⟩ (numE 0 9)) ⟨#[98]⟩ textE) ⟨#[99]⟩ textE))] 74 ∧ OwnM W bm41_15 (tkA (objM ([Mb.mk (⟨#[98]⟩) (V.mk (3) (0) (⟨#[120]⟩) ([]) ([])), Mb.mk (⟨#[97]⟩) (V.mk (2) (1) (⟨#[]⟩) ([]) ([]))])) (tkA (objM ([Mb.mk (⟨#[98]⟩) (V.mk (3) (0) (⟨#[120]⟩) ([]) ([])), Mb.mk (⟨#[97]⟩) (V.mk (2) (1) (⟨#[]⟩) ([]) ([]))])) (tkA (objM ([Mb.mk (⟨#[98]⟩) (V.mk (3) (0) (⟨#[120]⟩) ([]) ([])), Mb.mk (⟨#[97]⟩) (V.mk (2) (1) (⟨#[]⟩) ([]) ([]))])) ([]) 0 ⟨#[97]⟩ (numE 0 9)) (tkE (objM ([Mb.mk (⟨#[98]⟩) (V.mk (3) (0) (⟨#[120]⟩) ([]) ([])), Mb.mk (⟨#[97]⟩) (V.mk (2) (1) (⟨#[]⟩) ([]) ([]))])) 0 ⟨#[97]⟩ (numE 0 9)) ⟨#[98]⟩ textE) (tkE (objM ([Mb.mk (⟨#[98]⟩) (V.mk (3) (0) (⟨#[120]⟩) ([]) ([])), Mb.mk (⟨#[97]⟩) (V.mk (2) (1) (⟨#[]⟩) ([]) ([]))])) (tkE (objM ([Mb.mk (⟨#[98]⟩) (V.mk (3) (0) (⟨#[120]⟩) ([]) ([])), Mb.mk (⟨#[97]⟩) (V.mk (2) (1) (⟨#[]⟩) ([]) ([]))])) 0 ⟨#[97]⟩ (numE 0 9)) ⟨#[98]⟩ textE) ⟨#[99]⟩ textE)) ent43 (hlc rfl) Has.cst (st_is _) (stE_and stE_own stE_ownM) (fun g u1 u2 W hk hg h1 h2 hP => by have h1 : u1 = _ := h1; subst u1; have h2 : u2 = _ := h2; subst u2; exact (Text_ok ((objM ([Mb.mk (⟨#[98]⟩) (V.mk (3) (0) (⟨#[120]⟩) ([]) ([])), Mb.mk (⟨#[97]⟩) (V.mk (2) (1) (⟨#[]⟩) ([]) ([]))]))) (tkA (objM ([Mb.mk (⟨#[98]⟩) (V.mk (3) (0) (⟨#[120]⟩) ([]) ([])), Mb.mk (⟨#[97]⟩) (V.mk (2) (1) (⟨#[]⟩) ([]) ([]))])) (tkA (objM ([Mb.mk (⟨#[98]⟩) (V.mk (3) (0) (⟨#[120]⟩) ([]) ([])), Mb.mk (⟨#[97]⟩) (V.mk (2) (1) (⟨#[]⟩) ([]) ([]))])) ([]) 0 ⟨#[97]⟩ (numE 0 9)) (tkE (objM ([Mb.mk (⟨#[98]⟩) (V.mk (3) (0) (⟨#[120]⟩) ([]) ([])), Mb.mk (⟨#[97]⟩) (V.mk (2) (1) (⟨#[]⟩) ([]) ([]))])) 0 ⟨#[97]⟩ (numE 0 9)) ⟨#[98]⟩ textE) (tkE (objM ([Mb.mk (⟨#[98]⟩) (V.mk (3) (0) (⟨#[120]⟩) ([]) ([])), Mb.mk (⟨#[97]⟩) (V.mk (2) (1) (⟨#[]⟩) ([]) ([]))])) (tkE (objM ([Mb.mk (⟨#[98]⟩) (V.mk (3) (0) (⟨#[120]⟩) ([]) ([])), Mb.mk (⟨#[97]⟩) (V.mk (2) (1) (⟨#[]⟩) ([]) ([]))])) 0 ⟨#[97]⟩ (numE 0 9)) ⟨#[98]⟩ textE) (AB.nil.tk.tk.mono (by omega)) (Nat.le_of_ble_eq_true (by kernel_rfl)) tb41_15 ⟨#[99]⟩ W _ _ _ _ _ (fun b o h => h.2.1) (sf_notin (by simp)) ne_bo41_15_bm41_15 (sf_keepL D_cn41_15 hk (by simp)) (sf_keepL D_ci41_15 hk (by simp)) hP.1 hP.2)) ?_
 refine .dn fun a25 g W25 y25 zz25 hk hg hV hR hP => ?_
 refine tail_nil ?_
 show runTail _ _ _ _ _ _
 obtain ⟨e62, -, -⟩ := hV
 replace e1 := ft hR e1
 replace e5 := ft hR e5
 replace e60 := ft hR e60
 replace e62 := e62.q
 replace D_cn15_4 := sf_keepL D_cn15_4 hk (by simp)
 replace D_ci15_4 := sf_keepL D_ci15_4 hk (by simp)
 replace D_cn41_15 := sf_keepL D_cn41_15 hk (by simp)
 replace D_ci41_15 := sf_keepL D_ci41_15 hk (by simp)
 replace own_b1_4 := own_keepL own_b1_4 hk (by simp [ne_b1_4_bo41_15, ne_b1_4_bm41_15])
 replace own_b3_8 := own_keepL own_b3_8 hk (by simp [ne_b3_8_bo41_15, ne_b3_8_bm41_15])
 obtain ⟨own_bo41_15, own_bm41_15⟩ := hP
 replace own_bo41_15 : Own W25 bo41_15 [(.int .u8 ((objM ([Mb.mk (⟨#[98]⟩) (V.mk (3) (0) (⟨#[120]⟩) ([]) ([])), Mb.mk (⟨#[97]⟩) (V.mk (2) (1) (⟨#[]⟩) ([]) ([]))])).k)), (.int .i64 ((objM ([Mb.mk (⟨#[98]⟩) (V.mk (3) (0) (⟨#[120]⟩) ([]) ([])), Mb.mk (⟨#[97]⟩) (V.mk (2) (1) (⟨#[]⟩) ([]) ([]))])).n)), (.string ((objM ([Mb.mk (⟨#[98]⟩) (V.mk (3) (0) (⟨#[120]⟩) ([]) ([])), Mb.mk (⟨#[97]⟩) (V.mk (2) (1) (⟨#[]⟩) ([]) ([]))])).t)), (.slice cn41_15a (((objM ([Mb.mk (⟨#[98]⟩) (V.mk (3) (0) (⟨#[120]⟩) ([]) ([])), Mb.mk (⟨#[97]⟩) (V.mk (2) (1) (⟨#[]⟩) ([]) ([]))])).ns).length) cn41_15c), (.slice ci41_15a (((objM ([Mb.mk (⟨#[98]⟩) (V.mk (3) (0) (⟨#[120]⟩) ([]) ([])), Mb.mk (⟨#[97]⟩) (V.mk (2) (1) (⟨#[]⟩) ([]) ([]))])).xs).length) ci41_15c), (.map (some bm41_15)), (.int .i64 (tkE (objM ([Mb.mk (⟨#[98]⟩) (V.mk (3) (0) (⟨#[120]⟩) ([]) ([])), Mb.mk (⟨#[97]⟩) (V.mk (2) (1) (⟨#[]⟩) ([]) ([]))])) (tkE (objM ([Mb.mk (⟨#[98]⟩) (V.mk (3) (0) (⟨#[120]⟩) ([]) ([])), Mb.mk (⟨#[97]⟩) (V.mk (2) (1) (⟨#[]⟩) ([]) ([]))])) (tkE (objM ([Mb.mk (⟨#[98]⟩) (V.mk (3) (0) (⟨#[120]⟩) ([]) ([])), Mb.mk (⟨#[97]⟩) (V.mk (2) (1) (⟨#[]⟩) ([]) ([]))])) 0 ⟨#[97]⟩ (numE 0 9)) ⟨#[98]⟩ textE) ⟨#[99]⟩ textE))] 74 := own_bo41_15
 replace own_bm41_15 : OwnM W25 bm41_15 (tkA (objM ([Mb.mk (⟨#[98]⟩) (V.mk (3) (0) (⟨#[120]⟩) ([]) ([])), Mb.mk (⟨#[97]⟩) (V.mk (2) (1) (⟨#[]⟩) ([]) ([]))])) (tkA (objM ([Mb.mk (⟨#[98]⟩) (V.mk (3) (0) (⟨#[120]⟩) ([]) ([])), Mb.mk (⟨#[97]⟩) (V.mk (2) (1) (⟨#[]⟩) ([]) ([]))])) (tkA (objM ([Mb.mk (⟨#[98]⟩) (V.mk (3) (0) (⟨#[120]⟩) ([]) ([])), Mb.mk (⟨#[97]⟩) (V.mk (2) (1) (⟨#[]⟩) ([]) ([]))])) ([]) 0 ⟨#[97]⟩ (numE 0 9)) (tkE (objM ([Mb.mk (⟨#[98]⟩) (V.mk (3) (0) (⟨#[120]⟩) ([]) ([])), Mb.mk (⟨#[97]⟩) (V.mk (2) (1) (⟨#[]⟩) ([]) ([]))])) 0 ⟨#[97]⟩ (numE 0 9)) ⟨#[98]⟩ textE) (tkE (objM ([Mb.mk (⟨#[98]⟩) (V.mk (3) (0) (⟨#[120]⟩) ([]) ([])), Mb.mk (⟨#[97]⟩) (V.mk (2) (1) (⟨#[]⟩) ([]) ([]))])) (tkE (objM ([Mb.mk (⟨#[98]⟩) (V.mk (3) (0) (⟨#[120]⟩) ([]) ([])), Mb.mk (⟨#[97]⟩) (V.mk (2) (1) (⟨#[]⟩) ([]) ([]))])) 0 ⟨#[97]⟩ (numE 0 9)) ⟨#[98]⟩ textE) ⟨#[99]⟩ textE) := own_bm41_15
 replace kw := keeps_L kw hk (in_cons (.inl lo_bo41_15) (in_cons (.inl lo_bm41_15) in_nil))
 clear hR hk hg
 refine tail_reg 3 All y25 zz25 st_tr trivial rfl ?_
 refine .i (sp_sNeq (hbs rfl e62) Has.cst) ?_
 refine .i (sp_or (hbs rfl e60) ((hlc rfl).toU)) ?_
 refine .i (sp_move (hlc rfl)) ?_
 refine .dn fun a26 g W26 y26 zz26 hk hg hV hR hP => ?_
 refine tail_nil ?_
 show runTail _ _ _ _ _ _
 obtain ⟨e65, -, -, -⟩ := hV
 replace e1 := ft hR e1
 replace e5 := ft hR e5
 replace D_cn15_4 := D_cn15_4.ext hk
 replace D_ci15_4 := D_ci15_4.ext hk
 replace D_cn41_15 := D_cn41_15.ext hk
 replace D_ci41_15 := D_ci41_15.ext hk
 replace e65 := e65.q
 replace own_b1_4 := own_b1_4.ext hk
 replace own_b3_8 := own_b3_8.ext hk
 replace own_bo41_15 := own_bo41_15.ext hk
 replace own_bm41_15 := own_bm41_15.ext hk
 replace kw := kw.x hk
 clear hR hk hg hP
 refine tail_ung 23 65 false rfl 3 rfl (e65.trans (congrArg Value.bool (by kernel_rfl))) ?_
 refine tail_reg 4 All y26 zz26 st_tr trivial rfl ?_
 refine .mb rfl e5 ?_
 refine .i (v := (.int .i64 (doneE (objM ([Mb.mk (⟨#[98]⟩) (V.mk (3) (0) (⟨#[120]⟩) ([]) ([])), Mb.mk (⟨#[97]⟩) (V.mk (2) (1) (⟨#[]⟩) ([]) ([]))])) (tkA (objM ([Mb.mk (⟨#[98]⟩) (V.mk (3) (0) (⟨#[120]⟩) ([]) ([])), Mb.mk (⟨#[97]⟩) (V.mk (2) (1) (⟨#[]⟩) ([]) ([]))])) (tkA (objM ([Mb.mk (⟨#[98]⟩) (V.mk (3) (0) (⟨#[120]⟩) ([]) ([])), Mb.mk (⟨#[97]⟩) (V.mk (2) (1) (⟨#[]⟩) ([]) ([]))])) (tkA (objM ([Mb.mk (⟨#[98]⟩) (V.mk (3) (0) (⟨#[120]⟩) ([]) ([])), Mb.mk (⟨#[97]⟩) (V.mk (2) (1) (⟨#[]⟩) ([]) ([]))])) ([]) 0 ⟨#[97]⟩ (numE 0 9)) (tkE (objM ([Mb.mk (⟨#[98]⟩) (V.mk (3) (0) (⟨#[120]⟩) ([]) ([])), Mb.mk (⟨#[97]⟩) (V.mk (2) (1) (⟨#[]⟩) ([]) ([]))])) 0 ⟨#[97]⟩ (numE 0 9)) ⟨#[98]⟩ textE) (tkE (objM ([Mb.mk (⟨#[98]⟩) (V.mk (3) (0) (⟨#[120]⟩) ([]) ([])), Mb.mk (⟨#[97]⟩) (V.mk (2) (1) (⟨#[]⟩) ([]) ([]))])) (tkE (objM ([Mb.mk (⟨#[98]⟩) (V.mk (3) (0) (⟨#[120]⟩) ([]) ([])), Mb.mk (⟨#[97]⟩) (V.mk (2) (1) (⟨#[]⟩) ([]) ([]))])) 0 ⟨#[97]⟩ (numE 0 9)) ⟨#[98]⟩ textE) ⟨#[99]⟩ textE) (tkE (objM ([Mb.mk (⟨#[98]⟩) (V.mk (3) (0) (⟨#[120]⟩) ([]) ([])), Mb.mk (⟨#[97]⟩) (V.mk (2) (1) (⟨#[]⟩) ([]) ([]))])) (tkE (objM ([Mb.mk (⟨#[98]⟩) (V.mk (3) (0) (⟨#[120]⟩) ([]) ([])), Mb.mk (⟨#[97]⟩) (V.mk (2) (1) (⟨#[]⟩) ([]) ([]))])) (tkE (objM ([Mb.mk (⟨#[98]⟩) (V.mk (3) (0) (⟨#[120]⟩) ([]) ([])), Mb.mk (⟨#[97]⟩) (V.mk (2) (1) (⟨#[]⟩) ([]) ([]))])) 0 ⟨#[97]⟩ (numE 0 9)) ⟨#[98]⟩ textE) ⟨#[99]⟩ textE)))) (sp_call1 (φ1 := Is (.pointer (some ⟨bo41_15, 0, none⟩))) ent32 (hlc rfl) (fun g u1 W hk hgk h1 => by have h1 : u1 = _ := h1; subst u1; exact Done_ok ((objM ([Mb.mk (⟨#[98]⟩) (V.mk (3) (0) (⟨#[120]⟩) ([]) ([])), Mb.mk (⟨#[97]⟩) (V.mk (2) (1) (⟨#[]⟩) ([]) ([]))]))) (tkA (objM ([Mb.mk (⟨#[98]⟩) (V.mk (3) (0) (⟨#[120]⟩) ([]) ([])), Mb.mk (⟨#[97]⟩) (V.mk (2) (1) (⟨#[]⟩) ([]) ([]))])) (tkA (objM ([Mb.mk (⟨#[98]⟩) (V.mk (3) (0) (⟨#[120]⟩) ([]) ([])), Mb.mk (⟨#[97]⟩) (V.mk (2) (1) (⟨#[]⟩) ([]) ([]))])) (tkA (objM ([Mb.mk (⟨#[98]⟩) (V.mk (3) (0) (⟨#[120]⟩) ([]) ([])), Mb.mk (⟨#[97]⟩) (V.mk (2) (1) (⟨#[]⟩) ([]) ([]))])) ([]) 0 ⟨#[97]⟩ (numE 0 9)) (tkE (objM ([Mb.mk (⟨#[98]⟩) (V.mk (3) (0) (⟨#[120]⟩) ([]) ([])), Mb.mk (⟨#[97]⟩) (V.mk (2) (1) (⟨#[]⟩) ([]) ([]))])) 0 ⟨#[97]⟩ (numE 0 9)) ⟨#[98]⟩ textE) (tkE (objM ([Mb.mk (⟨#[98]⟩) (V.mk (3) (0) (⟨#[120]⟩) ([]) ([])), Mb.mk (⟨#[97]⟩) (V.mk (2) (1) (⟨#[]⟩) ([]) ([]))])) (tkE (objM ([Mb.mk (⟨#[98]⟩) (V.mk (3) (0) (⟨#[120]⟩) ([]) ([])), Mb.mk (⟨#[97]⟩) (V.mk (2) (1) (⟨#[]⟩) ([]) ([]))])) 0 ⟨#[97]⟩ (numE 0 9)) ⟨#[98]⟩ textE) ⟨#[99]⟩ textE) (tkE (objM ([Mb.mk (⟨#[98]⟩) (V.mk (3) (0) (⟨#[120]⟩) ([]) ([])), Mb.mk (⟨#[97]⟩) (V.mk (2) (1) (⟨#[]⟩) ([]) ([]))])) (tkE (objM ([Mb.mk (⟨#[98]⟩) (V.mk (3) (0) (⟨#[120]⟩) ([]) ([])), Mb.mk (⟨#[97]⟩) (V.mk (2) (1) (⟨#[]⟩) ([]) ([]))])) (tkE (objM ([Mb.mk (⟨#[98]⟩) (V.mk (3) (0) (⟨#[120]⟩) ([]) ([])), Mb.mk (⟨#[97]⟩) (V.mk (2) (1) (⟨#[]⟩) ([]) ([]))])) 0 ⟨#[97]⟩ (numE 0 9)) ⟨#[98]⟩ textE) ⟨#[99]⟩ textE) W _ _ _ _ _ (D_cn41_15.ext hk) (own_bo41_15.ext hk) (own_bm41_15.ext hk))) ?_
 refine .i (sp_neq (hlc rfl) Has.cst) ?_
 refine .i (sp_or (hbs rfl e65) ((hlc rfl).toU)) ?_
 refine .dn fun a27 g W27 y27 zz27 hk hg hV hR hP => ?_
 refine tail_nil ?_
 show runTail _ _ _ _ _ _
 obtain ⟨e69, -, -, -, -⟩ := hV
 replace e1 := ft hR e1
 replace D_cn15_4 := D_cn15_4.ext hk
 replace D_ci15_4 := D_ci15_4.ext hk
 replace D_cn41_15 := D_cn41_15.ext hk
 replace D_ci41_15 := D_ci41_15.ext hk
 replace e69 := e69.q
 replace own_b1_4 := own_b1_4.ext hk
 replace own_b3_8 := own_b3_8.ext hk
 replace own_bo41_15 := own_bo41_15.ext hk
 replace own_bm41_15 := own_bm41_15.ext hk
 replace kw := kw.x hk
 clear hR hk hg hP
 refine zn (hK18 _ _ ?_)
 refine zc e69 (fun hc => ?_) (fun hc => ?_)
 ·
  exfalso
  exact Bool.noConfusion (hc.symm.trans (by kernel_rfl : _ = false))
 refine wp_skip (hK17 _ _ ?_)
 refine zq fun K28 hK28 => ?_
 refine rg mixed y27 zz27 ?_
 refine .i (v := (.agg #[(.int .u8 ((objM ([Mb.mk (⟨#[98]⟩) (V.mk (3) (0) (⟨#[120]⟩) ([]) ([])), Mb.mk (⟨#[97]⟩) (V.mk (2) (1) (⟨#[]⟩) ([]) ([]))])).k)), (.int .i64 ((objM ([Mb.mk (⟨#[98]⟩) (V.mk (3) (0) (⟨#[120]⟩) ([]) ([])), Mb.mk (⟨#[97]⟩) (V.mk (2) (1) (⟨#[]⟩) ([]) ([]))])).n)), (.string ((objM ([Mb.mk (⟨#[98]⟩) (V.mk (3) (0) (⟨#[120]⟩) ([]) ([])), Mb.mk (⟨#[97]⟩) (V.mk (2) (1) (⟨#[]⟩) ([]) ([]))])).t)), (.slice cn15_4a (((objM ([Mb.mk (⟨#[98]⟩) (V.mk (3) (0) (⟨#[120]⟩) ([]) ([])), Mb.mk (⟨#[97]⟩) (V.mk (2) (1) (⟨#[]⟩) ([]) ([]))])).ns).length) cn15_4c), (.slice ci15_4a (((objM ([Mb.mk (⟨#[98]⟩) (V.mk (3) (0) (⟨#[120]⟩) ([]) ([])), Mb.mk (⟨#[97]⟩) (V.mk (2) (1) (⟨#[]⟩) ([]) ([]))])).xs).length) ci15_4c)])) (loA (hbs rfl e1) own_b1_4 trivial agg33 sz33 rfl rfl) ?_
 refine .op (φ := IsPk W27 74 ((objM ([Mb.mk (⟨#[98]⟩) (V.mk (3) (0) (⟨#[120]⟩) ([]) ([])), Mb.mk (⟨#[97]⟩) (V.mk (2) (1) (⟨#[]⟩) ([]) ([]))]))) ([]) (0)) st_pk (sp_call1 (φ1 := IsD (SF w [bo41_15, bm41_15, b3_8, b1_4]) (V.d ((objM ([Mb.mk (⟨#[98]⟩) (V.mk (3) (0) (⟨#[120]⟩) ([]) ([])), Mb.mk (⟨#[97]⟩) (V.mk (2) (1) (⟨#[]⟩) ([]) ([]))]))))) ent21 ((hlc rfl).dat (rdV_in (x := (objM ([Mb.mk (⟨#[98]⟩) (V.mk (3) (0) (⟨#[120]⟩) ([]) ([])), Mb.mk (⟨#[97]⟩) (V.mk (2) (1) (⟨#[]⟩) ([]) ([]))]))) ht_v15_4 D_cn15_4 D_ci15_4 : Rd W27 (SF w [bo41_15, bm41_15, b3_8, b1_4]) (V.d ((objM ([Mb.mk (⟨#[98]⟩) (V.mk (3) (0) (⟨#[120]⟩) ([]) ([])), Mb.mk (⟨#[97]⟩) (V.mk (2) (1) (⟨#[]⟩) ([]) ([]))])))) _) sub_all) (fun g u1 W hk hgk h1 => (Of_ok ((objM ([Mb.mk (⟨#[98]⟩) (V.mk (3) (0) (⟨#[120]⟩) ([]) ([])), Mb.mk (⟨#[97]⟩) (V.mk (2) (1) (⟨#[]⟩) ([]) ([]))]))) (Nat.le_of_ble_eq_true (by kernel_rfl)) (by kernel_rfl) W _ _ (fun b o h => h.1.2.1) h1).mono (fun _ _ ⟨v, h1, h2, h3⟩ => ⟨v, h1, h2, pk_up hk h3⟩))) ?_
 refine .i (v := (.agg #[(.int .u8 ((objM ([Mb.mk (⟨#[98]⟩) (V.mk (3) (0) (⟨#[120]⟩) ([]) ([])), Mb.mk (⟨#[97]⟩) (V.mk (2) (1) (⟨#[]⟩) ([]) ([]))])).k)), (.int .i64 ((objM ([Mb.mk (⟨#[98]⟩) (V.mk (3) (0) (⟨#[120]⟩) ([]) ([])), Mb.mk (⟨#[97]⟩) (V.mk (2) (1) (⟨#[]⟩) ([]) ([]))])).n)), (.string ((objM ([Mb.mk (⟨#[98]⟩) (V.mk (3) (0) (⟨#[120]⟩) ([]) ([])), Mb.mk (⟨#[97]⟩) (V.mk (2) (1) (⟨#[]⟩) ([]) ([]))])).t)), (.slice cn15_4a (((objM ([Mb.mk (⟨#[98]⟩) (V.mk (3) (0) (⟨#[120]⟩) ([]) ([])), Mb.mk (⟨#[97]⟩) (V.mk (2) (1) (⟨#[]⟩) ([]) ([]))])).ns).length) cn15_4c), (.slice ci15_4a (((objM ([Mb.mk (⟨#[98]⟩) (V.mk (3) (0) (⟨#[120]⟩) ([]) ([])), Mb.mk (⟨#[97]⟩) (V.mk (2) (1) (⟨#[]⟩) ([]) ([]))])).xs).length) ci15_4c)])) (loA (hbs rfl e1) own_b1_4 trivial agg33 sz33 rfl rfl) ?_
 refine .dn fun a29 g W29 y29 zz29 hk hg hV hR hP => ?_
 obtain ⟨e72, e71, -, -⟩ := hV
 obtain ⟨bo71_29, bm71_29, cn71_29v, ci71_29v, e71, lr_bo71_29, lr_bm71_29, ne_bo71_29_bm71_29, own_bo71_29, own_bm71_29, D_cn71_29, D_ci71_29, tb71_29⟩ := e71
 obtain ⟨cn71_29a, cn71_29c, ev, D2⟩ := rdS_out D_cn71_29; subst ev; replace D_cn71_29 := D2; clear D2
 obtain ⟨ci71_29a, ci71_29c, ev, D2⟩ := rdVs_out D_ci71_29; subst ev; replace D_ci71_29 := D2; clear D2
 have e71 : sl a29 71 = (.pointer (some ⟨bo71_29, 0, none⟩)) := e71
 have lo_bo71_29 : w.heap.size ≤ bo71_29 := Nat.le_trans kw.size lr_bo71_29
 have ne_b1_4_bo71_29 : b1_4 ≠ bo71_29 := Nat.ne_of_lt (Nat.lt_of_lt_of_le own_b1_4.lt lr_bo71_29)
 have ne_b3_8_bo71_29 : b3_8 ≠ bo71_29 := Nat.ne_of_lt (Nat.lt_of_lt_of_le own_b3_8.lt lr_bo71_29)
 have ne_bo41_15_bo71_29 : bo41_15 ≠ bo71_29 := Nat.ne_of_lt (Nat.lt_of_lt_of_le own_bo41_15.lt lr_bo71_29)
 have ne_bm41_15_bo71_29 : bm41_15 ≠ bo71_29 := Nat.ne_of_lt (Nat.lt_of_lt_of_le own_bm41_15.lt lr_bo71_29)
 have lo_bm71_29 : w.heap.size ≤ bm71_29 := Nat.le_trans kw.size lr_bm71_29
 have ne_b1_4_bm71_29 : b1_4 ≠ bm71_29 := Nat.ne_of_lt (Nat.lt_of_lt_of_le own_b1_4.lt lr_bm71_29)
 have ne_b3_8_bm71_29 : b3_8 ≠ bm71_29 := Nat.ne_of_lt (Nat.lt_of_lt_of_le own_b3_8.lt lr_bm71_29)
 have ne_bo41_15_bm71_29 : bo41_15 ≠ bm71_29 := Nat.ne_of_lt (Nat.lt_of_lt_of_le own_bo41_15.lt lr_bm71_29)
 have ne_bm41_15_bm71_29 : bm41_15 ≠ bm71_29 := Nat.ne_of_lt (Nat.lt_of_lt_of_le own_bm41_15.lt lr_bm71_29)
 replace D_cn15_4 : Rd W29 (SF w [bo71_29, bm71_29, bo41_15, bm41_15, b3_8, b1_4]) (strsD ((objM ([Mb.mk (⟨#[98]⟩) (V.mk (3) (0) (⟨#[120]⟩) ([]) ([])), Mb.mk (⟨#[97]⟩) (V.mk (2) (1) (⟨#[]⟩) ([]) ([]))])).ns)) (.slice cn15_4a (((objM ([Mb.mk (⟨#[98]⟩) (V.mk (3) (0) (⟨#[120]⟩) ([]) ([])), Mb.mk (⟨#[97]⟩) (V.mk (2) (1) (⟨#[]⟩) ([]) ([]))])).ns).length) cn15_4c) := sf_more D_cn15_4 hk [bo71_29, bm71_29] (in_cons lr_bo71_29 (in_cons lr_bm71_29 in_nil))
 replace D_ci15_4 : Rd W29 (SF w [bo71_29, bm71_29, bo41_15, bm41_15, b3_8, b1_4]) (valsD ((objM ([Mb.mk (⟨#[98]⟩) (V.mk (3) (0) (⟨#[120]⟩) ([]) ([])), Mb.mk (⟨#[97]⟩) (V.mk (2) (1) (⟨#[]⟩) ([]) ([]))])).xs)) (.slice ci15_4a (((objM ([Mb.mk (⟨#[98]⟩) (V.mk (3) (0) (⟨#[120]⟩) ([]) ([])), Mb.mk (⟨#[97]⟩) (V.mk (2) (1) (⟨#[]⟩) ([]) ([]))])).xs).length) ci15_4c) := sf_more D_ci15_4 hk [bo71_29, bm71_29] (in_cons lr_bo71_29 (in_cons lr_bm71_29 in_nil))
 replace D_cn71_29 : Rd W29 (SF w [bo71_29, bm71_29, bo41_15, bm41_15, b3_8, b1_4]) (strsD ((objM ([Mb.mk (⟨#[98]⟩) (V.mk (3) (0) (⟨#[120]⟩) ([]) ([])), Mb.mk (⟨#[97]⟩) (V.mk (2) (1) (⟨#[]⟩) ([]) ([]))])).ns)) (.slice cn71_29a (((objM ([Mb.mk (⟨#[98]⟩) (V.mk (3) (0) (⟨#[120]⟩) ([]) ([])), Mb.mk (⟨#[97]⟩) (V.mk (2) (1) (⟨#[]⟩) ([]) ([]))])).ns).length) cn71_29c) := pk_data kw (in_cons own_bo41_15.lt (in_cons own_bm41_15.lt (in_cons own_b3_8.lt (in_cons own_b1_4.lt in_nil)))) D_cn71_29
 replace D_ci71_29 : Rd W29 (SF w [bo71_29, bm71_29, bo41_15, bm41_15, b3_8, b1_4]) (valsD ((objM ([Mb.mk (⟨#[98]⟩) (V.mk (3) (0) (⟨#[120]⟩) ([]) ([])), Mb.mk (⟨#[97]⟩) (V.mk (2) (1) (⟨#[]⟩) ([]) ([]))])).xs)) (.slice ci71_29a (((objM ([Mb.mk (⟨#[98]⟩) (V.mk (3) (0) (⟨#[120]⟩) ([]) ([])), Mb.mk (⟨#[97]⟩) (V.mk (2) (1) (⟨#[]⟩) ([]) ([]))])).xs).length) ci71_29c) := pk_data kw (in_cons own_bo41_15.lt (in_cons own_bm41_15.lt (in_cons own_b3_8.lt (in_cons own_b1_4.lt in_nil)))) D_ci71_29
 have own_bo71_29 : Own W29 bo71_29 [(.int .u8 ((objM ([Mb.mk (⟨#[98]⟩) (V.mk (3) (0) (⟨#[120]⟩) ([]) ([])), Mb.mk (⟨#[97]⟩) (V.mk (2) (1) (⟨#[]⟩) ([]) ([]))])).k)), (.int .i64 ((objM ([Mb.mk (⟨#[98]⟩) (V.mk (3) (0) (⟨#[120]⟩) ([]) ([])), Mb.mk (⟨#[97]⟩) (V.mk (2) (1) (⟨#[]⟩) ([]) ([]))])).n)), (.string ((objM ([Mb.mk (⟨#[98]⟩) (V.mk (3) (0) (⟨#[120]⟩) ([]) ([])), Mb.mk (⟨#[97]⟩) (V.mk (2) (1) (⟨#[]⟩) ([]) ([]))])).t)), (.slice cn71_29a (((objM ([Mb.mk (⟨#[98]⟩) (V.mk (3) (0) (⟨#[120]⟩) ([]) ([])), Mb.mk (⟨#[97]⟩) (V.mk (2) (1) (⟨#[]⟩) ([]) ([]))])).ns).length) cn71_29c), (.slice ci71_29a (((objM ([Mb.mk (⟨#[98]⟩) (V.mk (3) (0) (⟨#[120]⟩) ([]) ([])), Mb.mk (⟨#[97]⟩) (V.mk (2) (1) (⟨#[]⟩) ([]) ([]))])).xs).length) ci71_29c), (.map (some bm71_29)), (.int .i64 (0))] 74 := own_bo71_29
 have own_bm71_29 : OwnM W29 bm71_29 ([]) := own_bm71_29
 replace e72 := e72.q
 replace own_b1_4 := own_b1_4.ext hk
 replace own_b3_8 := own_b3_8.ext hk
 replace own_bo41_15 := own_bo41_15.ext hk
 replace own_bm41_15 := own_bm41_15.ext hk
 replace kw := kw.x hk
 clear hR hk hg hP lr_bo71_29 lr_bm71_29
 refine tail_reg 1 All y29 zz29 st_tr trivial rfl ?_
 refine .op (φ := IsPk W29 74 ((objM ([Mb.mk (⟨#[98]⟩) (V.mk (3) (0) (⟨#[120]⟩) ([]) ([])), Mb.mk (⟨#[97]⟩) (V.mk (2) (1) (⟨#[]⟩) ([]) ([]))]))) ([]) (0)) st_pk (sp_call1 (φ1 := IsD (SF w [bo71_29, bm71_29, bo41_15, bm41_15, b3_8, b1_4]) (V.d ((objM ([Mb.mk (⟨#[98]⟩) (V.mk (3) (0) (⟨#[120]⟩) ([]) ([])), Mb.mk (⟨#[97]⟩) (V.mk (2) (1) (⟨#[]⟩) ([]) ([]))]))))) ent21 ((hbs rfl e72).dat (rdV_in (x := (objM ([Mb.mk (⟨#[98]⟩) (V.mk (3) (0) (⟨#[120]⟩) ([]) ([])), Mb.mk (⟨#[97]⟩) (V.mk (2) (1) (⟨#[]⟩) ([]) ([]))]))) ht_v15_4 D_cn15_4 D_ci15_4 : Rd W29 (SF w [bo71_29, bm71_29, bo41_15, bm41_15, b3_8, b1_4]) (V.d ((objM ([Mb.mk (⟨#[98]⟩) (V.mk (3) (0) (⟨#[120]⟩) ([]) ([])), Mb.mk (⟨#[97]⟩) (V.mk (2) (1) (⟨#[]⟩) ([]) ([]))])))) _) sub_all) (fun g u1 W hk hgk h1 => (Of_ok ((objM ([Mb.mk (⟨#[98]⟩) (V.mk (3) (0) (⟨#[120]⟩) ([]) ([])), Mb.mk (⟨#[97]⟩) (V.mk (2) (1) (⟨#[]⟩) ([]) ([]))]))) (Nat.le_of_ble_eq_true (by kernel_rfl)) (by kernel_rfl) W _ _ (fun b o h => h.1.2.1) h1).mono (fun _ _ ⟨v, h1, h2, h3⟩ => ⟨v, h1, h2, pk_up hk h3⟩))) ?_
 refine .dn fun a30 g W30 y30 zz30 hk hg hV hR hP => ?_
 refine tail_nil ?_
 show runTail _ _ _ _ _ _
 obtain ⟨e73, -⟩ := hV
 replace e71 := ft hR e71
 obtain ⟨bo73_30, bm73_30, cn73_30v, ci73_30v, e73, lr_bo73_30, lr_bm73_30, ne_bo73_30_bm73_30, own_bo73_30, own_bm73_30, D_cn73_30, D_ci73_30, tb73_30⟩ := e73
 obtain ⟨cn73_30a, cn73_30c, ev, D2⟩ := rdS_out D_cn73_30; subst ev; replace D_cn73_30 := D2; clear D2
 obtain ⟨ci73_30a, ci73_30c, ev, D2⟩ := rdVs_out D_ci73_30; subst ev; replace D_ci73_30 := D2; clear D2
 have e73 : sl a30 73 = (.pointer (some ⟨bo73_30, 0, none⟩)) := e73
 have lo_bo73_30 : w.heap.size ≤ bo73_30 := Nat.le_trans kw.size lr_bo73_30
 have ne_b1_4_bo73_30 : b1_4 ≠ bo73_30 := Nat.ne_of_lt (Nat.lt_of_lt_of_le own_b1_4.lt lr_bo73_30)
 have ne_b3_8_bo73_30 : b3_8 ≠ bo73_30 := Nat.ne_of_lt (Nat.lt_of_lt_of_le own_b3_8.lt lr_bo73_30)
 have ne_bo41_15_bo73_30 : bo41_15 ≠ bo73_30 := Nat.ne_of_lt (Nat.lt_of_lt_of_le own_bo41_15.lt lr_bo73_30)
 have ne_bm41_15_bo73_30 : bm41_15 ≠ bo73_30 := Nat.ne_of_lt (Nat.lt_of_lt_of_le own_bm41_15.lt lr_bo73_30)
 have ne_bo71_29_bo73_30 : bo71_29 ≠ bo73_30 := Nat.ne_of_lt (Nat.lt_of_lt_of_le own_bo71_29.lt lr_bo73_30)
 have ne_bm71_29_bo73_30 : bm71_29 ≠ bo73_30 := Nat.ne_of_lt (Nat.lt_of_lt_of_le own_bm71_29.lt lr_bo73_30)
 have lo_bm73_30 : w.heap.size ≤ bm73_30 := Nat.le_trans kw.size lr_bm73_30
 have ne_b1_4_bm73_30 : b1_4 ≠ bm73_30 := Nat.ne_of_lt (Nat.lt_of_lt_of_le own_b1_4.lt lr_bm73_30)
 have ne_b3_8_bm73_30 : b3_8 ≠ bm73_30 := Nat.ne_of_lt (Nat.lt_of_lt_of_le own_b3_8.lt lr_bm73_30)
 have ne_bo41_15_bm73_30 : bo41_15 ≠ bm73_30 := Nat.ne_of_lt (Nat.lt_of_lt_of_le own_bo41_15.lt lr_bm73_30)
 have ne_bm41_15_bm73_30 : bm41_15 ≠ bm73_30 := Nat.ne_of_lt (Nat.lt_of_lt_of_le own_bm41_15.lt lr_bm73_30)
 have ne_bo71_29_bm73_30 : bo71_29 ≠ bm73_30 := Nat.ne_of_lt (Nat.lt_of_lt_of_le own_bo71_29.lt lr_bm73_30)
 have ne_bm71_29_bm73_30 : bm71_29 ≠ bm73_30 := Nat.ne_of_lt (Nat.lt_of_lt_of_le own_bm71_29.lt lr_bm73_30)
 replace D_cn15_4 : Rd W30 (SF w [bo73_30, bm73_30, bo71_29, bm71_29, bo41_15, bm41_15, b3_8, b1_4]) (strsD ((objM ([Mb.mk (⟨#[98]⟩) (V.mk (3) (0) (⟨#[120]⟩) ([]) ([])), Mb.mk (⟨#[97]⟩) (V.mk (2) (1) (⟨#[]⟩) ([]) ([]))])).ns)) (.slice cn15_4a (((objM ([Mb.mk (⟨#[98]⟩) (V.mk (3) (0) (⟨#[120]⟩) ([]) ([])), Mb.mk (⟨#[97]⟩) (V.mk (2) (1) (⟨#[]⟩) ([]) ([]))])).ns).length) cn15_4c) := sf_more D_cn15_4 hk [bo73_30, bm73_30] (in_cons lr_bo73_30 (in_cons lr_bm73_30 in_nil))
 replace D_ci15_4 : Rd W30 (SF w [bo73_30, bm73_30, bo71_29, bm71_29, bo41_15, bm41_15, b3_8, b1_4]) (valsD ((objM ([Mb.mk (⟨#[98]⟩) (V.mk (3) (0) (⟨#[120]⟩) ([]) ([])), Mb.mk (⟨#[97]⟩) (V.mk (2) (1) (⟨#[]⟩) ([]) ([]))])).xs)) (.slice ci15_4a (((objM ([Mb.mk (⟨#[98]⟩) (V.mk (3) (0) (⟨#[120]⟩) ([]) ([])), Mb.mk (⟨#[97]⟩) (V.mk (2) (1) (⟨#[]⟩) ([]) ([]))])).xs).length) ci15_4c) := sf_more D_ci15_4 hk [bo73_30, bm73_30] (in_cons lr_bo73_30 (in_cons lr_bm73_30 in_nil))
 replace D_cn71_29 : Rd W30 (SF w [bo73_30, bm73_30, bo71_29, bm71_29, bo41_15, bm41_15, b3_8, b1_4]) (strsD ((objM ([Mb.mk (⟨#[98]⟩) (V.mk (3) (0) (⟨#[120]⟩) ([]) ([])), Mb.mk (⟨#[97]⟩) (V.mk (2) (1) (⟨#[]⟩) ([]) ([]))])).ns)) (.slice cn71_29a (((objM ([Mb.mk (⟨#[98]⟩) (V.mk (3) (0) (⟨#[120]⟩) ([]) ([])), Mb.mk (⟨#[97]⟩) (V.mk (2) (1) (⟨#[]⟩) ([]) ([]))])).ns).length) cn71_29c) := sf_more D_cn71_29 hk [bo73_30, bm73_30] (in_cons lr_bo73_30 (in_cons lr_bm73_30 in_nil))
 replace D_ci71_29 : Rd W30 (SF w [bo73_30, bm73_30, bo71_29, bm71_29, bo41_15, bm41_15, b3_8, b1_4]) (valsD ((objM ([Mb.mk (⟨#[98]⟩) (V.mk (3) (0) (⟨#[120]⟩) ([]) ([])), Mb.mk (⟨#[97]⟩) (V.mk (2) (1) (⟨#[]⟩) ([]) ([]))])).xs)) (.slice ci71_29a (((objM ([Mb.mk (⟨#[98]⟩) (V.mk (3) (0) (⟨#[120]⟩) ([]) ([])), Mb.mk (⟨#[97]⟩) (V.mk (2) (1) (⟨#[]⟩) ([]) ([]))])).xs).length) ci71_29c) := sf_more D_ci71_29 hk [bo73_30, bm73_30] (in_cons lr_bo73_30 (in_cons lr_bm73_30 in_nil))
 replace D_cn73_30 : Rd W30 (SF w [bo73_30, bm73_30, bo71_29, bm71_29, bo41_15, bm41_15, b3_8, b1_4]) (strsD ((objM ([Mb.mk (⟨#[98]⟩) (V.mk (3) (0) (⟨#[120]⟩) ([]) ([])), Mb.mk (⟨#[97]⟩) (V.mk (2) (1) (⟨#[]⟩) ([]) ([]))])).ns)) (.slice cn73_30a (((objM ([Mb.mk (⟨#[98]⟩) (V.mk (3) (0) (⟨#[120]⟩) ([]) ([])), Mb.mk (⟨#[97]⟩) (V.mk (2) (1) (⟨#[]⟩) ([]) ([]))])).ns).length) cn73_30c) := pk_data kw (in_cons own_bo71_29.lt (in_cons own_bm71_29.lt (in_cons own_bo41_15.lt (in_cons own_bm41_15.lt (in_cons own_b3_8.lt (in_cons own_b1_4.lt in_nil)))))) D_cn73_30
 replace D_ci73_30 : Rd W30 (SF w [bo73_30, bm73_30, bo71_29, bm71_29, bo41_15, bm41_15, b3_8, b1_4]) (valsD ((objM ([Mb.mk (⟨#[98]⟩) (V.mk (3) (0) (⟨#[120]⟩) ([]) ([])), Mb.mk (⟨#[97]⟩) (V.mk (2) (1) (⟨#[]⟩) ([]) ([]))])).xs)) (.slice ci73_30a (((objM ([Mb.mk (⟨#[98]⟩) (V.mk (3) (0) (⟨#[120]⟩) ([]) ([])), Mb.mk (⟨#[97]⟩) (V.mk (2) (1) (⟨#[]⟩) ([]) ([]))])).xs).length) ci73_30c) := pk_data kw (in_cons own_bo71_29.lt (in_cons own_bm71_29.lt (in_cons own_bo41_15.lt (in_cons own_bm41_15.lt (in_cons own_b3_8.lt (in_cons own_b1_4.lt in_nil)))))) D_ci73_30
 have own_bo73_30 : Own W30 bo73_30 [(.int .u8 ((objM ([Mb.mk (⟨#[98]⟩) (V.mk (3) (0) (⟨#[120]⟩) ([]) ([])), Mb.mk (⟨#[97]⟩) (V.mk (2) (1) (⟨#[]⟩) ([]) ([]))])).k)), (.int .i64 ((objM ([Mb.mk (⟨#[98]⟩) (V.mk (3) (0) (⟨#[120]⟩) ([]) ([])), Mb.mk (⟨#[97]⟩) (V.mk (2) (1) (⟨#[]⟩) ([]) ([]))])).n)), (.string ((objM ([Mb.mk (⟨#[98]⟩) (V.mk (3) (0) (⟨#[120]⟩) ([]) ([])), Mb.mk (⟨#[97]⟩) (V.mk (2) (1) (⟨#[]⟩) ([]) ([]))])).t)), (.slice cn73_30a (((objM ([Mb.mk (⟨#[98]⟩) (V.mk (3) (0) (⟨#[120]⟩) ([]) ([])), Mb.mk (⟨#[97]⟩) (V.mk (2) (1) (⟨#[]⟩) ([]) ([]))])).ns).length) cn73_30c), (.slice ci73_30a (((objM ([Mb.mk (⟨#[98]⟩) (V.mk (3) (0) (⟨#[120]⟩) ([]) ([])), Mb.mk (⟨#[97]⟩) (V.mk (2) (1) (⟨#[]⟩) ([]) ([]))])).xs).length) ci73_30c), (.map (some bm73_30)), (.int .i64 (0))] 74 := own_bo73_30
 have own_bm73_30 : OwnM W30 bm73_30 ([]) := own_bm73_30
 replace own_b1_4 := own_b1_4.ext hk
 replace own_b3_8 := own_b3_8.ext hk
 replace own_bo41_15 := own_bo41_15.ext hk
 replace own_bm41_15 := own_bm41_15.ext hk
 replace own_bo71_29 := own_bo71_29.ext hk
 replace own_bm71_29 := own_bm71_29.ext hk
 replace kw := kw.x hk
 clear hR hk hg hP lr_bo73_30 lr_bm73_30
 refine tail_reg 2 All y30 zz30 st_tr trivial rfl ?_
 refine .i (sp_assign (hbs rfl e71)) ?_
 refine .i (sp_assign (hbs rfl e73)) ?_
 refine .dn fun a31 g W31 y31 zz31 hk hg hV hR hP => ?_
 refine tail_nil ?_
 show runTail _ _ _ _ _ _
 obtain ⟨e7, e6, -⟩ := hV
 replace D_cn71_29 := D_cn71_29.ext hk
 replace D_ci71_29 := D_ci71_29.ext hk
 replace D_cn73_30 := D_cn73_30.ext hk
 replace D_ci73_30 := D_ci73_30.ext hk
 have e6 : sl a31 6 = (.pointer (some ⟨bo71_29, 0, none⟩)) := e6
 have e7 : sl a31 7 = (.pointer (some ⟨bo73_30, 0, none⟩)) := e7
 replace own_b1_4 := own_b1_4.ext hk
 replace own_b3_8 := own_b3_8.ext hk
 replace own_bo41_15 := own_bo41_15.ext hk
 replace own_bm41_15 := own_bm41_15.ext hk
 replace own_bo71_29 := own_bo71_29.ext hk
 replace own_bm71_29 := own_bm71_29.ext hk
 replace own_bo73_30 := own_bo73_30.ext hk
 replace own_bm73_30 := own_bm73_30.ext hk
 replace kw := kw.x hk
 clear hR hk hg hP
 refine zn (hK28 _ _ ?_)
 refine zq fun K32 hK32 => ?_
 refine wp_reg (fun k => k ∉ [bo71_29, bm71_29]) (Ψ := fun W => Own W bo71_29 [(.int .u8 ((objM ([Mb.mk (⟨#[98]⟩) (V.mk (3) (0) (⟨#[120]⟩) ([]) ([])), Mb.mk (⟨#[97]⟩) (V.mk (2) (1) (⟨#[]⟩) ([]) ([]))])).k)), (.int .i64 ((objM ([Mb.mk (⟨#[98]⟩) (V.mk (3) (0) (⟨#[120]⟩) ([]) ([])), Mb.mk (⟨#[97]⟩) (V.mk (2) (1) (⟨#[]⟩) ([]) ([]))])).n)), (.string ((objM ([Mb.mk (⟨#[98]⟩) (V.mk (3) (0) (⟨#[120]⟩) ([]) ([])), Mb.mk (⟨#[97]⟩) (V.mk (2) (1) (⟨#[]⟩) ([]) ([]))])).t)), (.slice cn71_29a (((objM ([Mb.mk (⟨#[98]⟩) (V.mk (3) (0) (⟨#[120]⟩) ([]) ([])), Mb.mk (⟨#[97]⟩) (V.mk (2) (1) (⟨#[]⟩) ([]) ([]))])).ns).length) cn71_29c), (.slice ci71_29a (((objM ([Mb.mk (⟨#[98]⟩) (V.mk (3) (0) (⟨#[120]⟩) ([]) ([])), Mb.mk (⟨#[97]⟩) (V.mk (2) (1) (⟨#[]⟩) ([]) ([]))])).xs).length) ci71_29c), (.map (some bm71_29)), (.int .i64 (0))] 74 ∧ OwnM W bm71_29 ([])) mixed y31 zz31 (stE_and stE_own stE_ownM) ⟨own_bo71_29, own_bm71_29⟩ ?_
 refine .mb rfl e6 ?_
 refine .callL4 (φ1 := Is (.pointer (some ⟨bo71_29, 0, none⟩))) (φ2 := Is (.string (⟨#[97]⟩))) (φ3 := Is (.int .i64 (2))) (φ4 := Is (.int .i64 (9))) (φ := Is (.int .i64 (if tkB (objM ([Mb.mk (⟨#[98]⟩) (V.mk (3) (0) (⟨#[120]⟩) ([]) ([])), Mb.mk (⟨#[97]⟩) (V.mk (2) (1) (⟨#[]⟩) ([]) ([]))])) 0 ⟨#[97]⟩ (numE 2 9) then numV 2 9 (getV (objM ([Mb.mk (⟨#[98]⟩) (V.mk (3) (0) (⟨#[120]⟩) ([]) ([])), Mb.mk (⟨#[97]⟩) (V.mk (2) (1) (⟨#[]⟩) ([]) ([]))])) ⟨#[97]⟩) else 0))) (Ψ' := fun W => Own W bo71_29 [(.int .u8 ((objM ([Mb.mk (⟨#[98]⟩) (V.mk (3) (0) (⟨#[120]⟩) ([]) ([])), Mb.mk (⟨#[97]⟩) (V.mk (2) (1) (⟨#[]⟩) ([]) ([]))])).k)), (.int .i64 ((objM ([Mb.mk (⟨#[98]⟩) (V.mk (3) (0) (⟨#[120]⟩) ([]) ([])), Mb.mk (⟨#[97]⟩) (V.mk (2) (1) (⟨#[]⟩) ([]) ([]))])).n)), (.string ((objM ([Mb.mk (⟨#[98]⟩) (V.mk (3) (0) (⟨#[120]⟩) ([]) ([])), Mb.mk (⟨#[97]⟩) (V.mk (2) (1) (⟨#[]⟩) ([]) ([]))])).t)), (.slice cn71_29a (((objM ([Mb.mk (⟨#[98]⟩) (V.mk (3) (0) (⟨#[120]⟩) ([]) ([])), Mb.mk (⟨#[97]⟩) (V.mk (2) (1) (⟨#[]⟩) ([]) ([]))])).ns).length) cn71_29c), (.slice ci71_29a (((objM ([Mb.mk (⟨#[98]⟩) (V.mk (3) (0) (⟨#[120]⟩) ([]) ([])), Mb.mk (⟨#[97]⟩) (V.mk (2) (1) (⟨#[]⟩) ([]) ([]))])).xs).length) ci71_29c), (.map (some bm71_29)), (.int .i64 (tkE (objM ([Mb.mk (⟨#[98]⟩) (V.mk (3) (0) (⟨#[120]⟩) ([]) ([])), Mb.mk (⟨#[97]⟩) (V.mk (2) (1) (⟨#[]⟩) ([]) ([]))])) 0 ⟨#[97]⟩ (numE 2 9)))] 74 ∧ OwnM W bm71_29 (tkA (objM ([Mb.mk (⟨#[98]⟩) (V.mk (3) (0) (⟨#[120]⟩) ([]) ([])), Mb.mk (⟨#[97]⟩) (V.mk (2) (1) (⟨#[]⟩) ([]) ([]))])) ([]) 0 ⟨#[97]⟩ (numE 2 9))) ent44 (hlc rfl) Has.cst Has.cst Has.cst (st_is _) (stE_and stE_own stE_ownM) (fun g u1 u2 u3 u4 W hk hg h1 h2 h3 h4 hP => by have h1 : u1 = _ := h1; subst u1; have h2 : u2 = _ := h2; subst u2; have h3 : u3 = _ := h3; subst u3; have h4 : u4 = _ := h4; subst u4; exact (Num_ok ((objM ([Mb.mk (⟨#[98]⟩) (V.mk (3) (0) (⟨#[120]⟩) ([]) ([])), Mb.mk (⟨#[97]⟩) (V.mk (2) (1) (⟨#[]⟩) ([]) ([]))]))) ([]) (0) (AB.nil.mono (by omega)) (Nat.le_of_ble_eq_true (by kernel_rfl)) tb71_29 ⟨#[97]⟩ 2 9 W _ _ _ _ _ (fun b o h => h.2.1) (sf_notin (by simp)) ne_bo71_29_bm71_29 (sf_keepL D_cn71_29 hk (by simp)) (sf_keepL D_ci71_29 hk (by simp)) hP.1 hP.2)) ?_
 refine .dn fun a33 g W33 y33 zz33 hk hg hV hR hP => ?_
 obtain ⟨e75, -, -⟩ := hV
 replace e6 := ft hR e6
 replace e7 := ft hR e7
 replace e75 := e75.q
 replace D_cn71_29 := sf_keepL D_cn71_29 hk (by simp)
 replace D_ci71_29 := sf_keepL D_ci71_29 hk (by simp)
 replace D_cn73_30 := sf_keepL D_cn73_30 hk (by simp)
 replace D_ci73_30 := sf_keepL D_ci73_30 hk (by simp)
 replace own_b1_4 := own_keepL own_b1_4 hk (by simp [ne_b1_4_bo71_29, ne_b1_4_bm71_29])
 replace own_b3_8 := own_keepL own_b3_8 hk (by simp [ne_b3_8_bo71_29, ne_b3_8_bm71_29])
 replace own_bo41_15 := own_keepL own_bo41_15 hk (by simp [ne_bo41_15_bo71_29, ne_bo41_15_bm71_29])
 replace own_bm41_15 := ownM_keepL own_bm41_15 hk (by simp [ne_bm41_15_bo71_29, ne_bm41_15_bm71_29])
 replace own_bo73_30 := own_keepL own_bo73_30 hk (by simp [ne_bo71_29_bo73_30.symm, ne_bm71_29_bo73_30.symm])
 replace own_bm73_30 := ownM_keepL own_bm73_30 hk (by simp [ne_bo71_29_bm73_30.symm, ne_bm71_29_bm73_30.symm])
 obtain ⟨own_bo71_29, own_bm71_29⟩ := hP
 replace own_bo71_29 : Own W33 bo71_29 [(.int .u8 ((objM ([Mb.mk (⟨#[98]⟩) (V.mk (3) (0) (⟨#[120]⟩) ([]) ([])), Mb.mk (⟨#[97]⟩) (V.mk (2) (1) (⟨#[]⟩) ([]) ([]))])).k)), (.int .i64 ((objM ([Mb.mk (⟨#[98]⟩) (V.mk (3) (0) (⟨#[120]⟩) ([]) ([])), Mb.mk (⟨#[97]⟩) (V.mk (2) (1) (⟨#[]⟩) ([]) ([]))])).n)), (.string ((objM ([Mb.mk (⟨#[98]⟩) (V.mk (3) (0) (⟨#[120]⟩) ([]) ([])), Mb.mk (⟨#[97]⟩) (V.mk (2) (1) (⟨#[]⟩) ([]) ([]))])).t)), (.slice cn71_29a (((objM ([Mb.mk (⟨#[98]⟩) (V.mk (3) (0) (⟨#[120]⟩) ([]) ([])), Mb.mk (⟨#[97]⟩) (V.mk (2) (1) (⟨#[]⟩) ([]) ([]))])).ns).length) cn71_29c), (.slice ci71_29a (((objM ([Mb.mk (⟨#[98]⟩) (V.mk (3) (0) (⟨#[120]⟩) ([]) ([])), Mb.mk (⟨#[97]⟩) (V.mk (2) (1) (⟨#[]⟩) ([]) ([]))])).xs).length) ci71_29c), (.map (some bm71_29)), (.int .i64 (tkE (objM ([Mb.mk (⟨#[98]⟩) (V.mk (3) (0) (⟨#[120]⟩) ([]) ([])), Mb.mk (⟨#[97]⟩) (V.mk (2) (1) (⟨#[]⟩) ([]) ([]))])) 0 ⟨#[97]⟩ (numE 2 9)))] 74 := own_bo71_29
 replace own_bm71_29 : OwnM W33 bm71_29 (tkA (objM ([Mb.mk (⟨#[98]⟩) (V.mk (3) (0) (⟨#[120]⟩) ([]) ([])), Mb.mk (⟨#[97]⟩) (V.mk (2) (1) (⟨#[]⟩) ([]) ([]))])) ([]) 0 ⟨#[97]⟩ (numE 2 9)) := own_bm71_29
 replace kw := keeps_L kw hk (in_cons (.inl lo_bo71_29) (in_cons (.inl lo_bm71_29) in_nil))
 clear hR hk hg
 refine tail_reg 2 All y33 zz33 st_tr trivial rfl ?_
 refine .i (sp_eql (hbs rfl e75) Has.cst) ?_
 refine .i (sp_move (hlc rfl)) ?_
 refine .dn fun a34 g W34 y34 zz34 hk hg hV hR hP => ?_
 refine tail_nil ?_
 show runTail _ _ _ _ _ _
 obtain ⟨e77, -, -⟩ := hV
 replace e6 := ft hR e6
 replace e7 := ft hR e7
 replace D_cn71_29 := D_cn71_29.ext hk
 replace D_ci71_29 := D_ci71_29.ext hk
 replace D_cn73_30 := D_cn73_30.ext hk
 replace D_ci73_30 := D_ci73_30.ext hk
 replace e77 := e77.q
 replace own_b1_4 := own_b1_4.ext hk
 replace own_b3_8 := own_b3_8.ext hk
 replace own_bo41_15 := own_bo41_15.ext hk
 replace own_bm41_15 := own_bm41_15.ext hk
 replace own_bo71_29 := own_bo71_29.ext hk
 replace own_bm71_29 := own_bm71_29.ext hk
 replace own_bo73_30 := own_bo73_30.ext hk
 replace own_bm73_30 := own_bm73_30.ext hk
 replace kw := kw.x hk
 clear hR hk hg hP
 refine tail_ung 3 77 true rfl 3 rfl (e77.trans (congrArg Value.bool (by kernel_rfl))) ?_
 refine tail_reg 5 All y34 zz34 st_tr trivial rfl ?_
 refine .mb rfl e6 ?_
 refine .i (v := (.int .i64 (errK ((objM ([Mb.mk (⟨#[98]⟩) (V.mk (3) (0) (⟨#[120]⟩) ([]) ([])), Mb.mk (⟨#[97]⟩) (V.mk (2) (1) (⟨#[]⟩) ([]) ([]))])).k) (tkE (objM ([Mb.mk (⟨#[98]⟩) (V.mk (3) (0) (⟨#[120]⟩) ([]) ([])), Mb.mk (⟨#[97]⟩) (V.mk (2) (1) (⟨#[]⟩) ([]) ([]))])) 0 ⟨#[97]⟩ (numE 2 9))))) (sp_call1 (φ1 := Is (.pointer (some ⟨bo71_29, 0, none⟩))) ent24 (hlc rfl) (fun g u1 W hk hgk h1 => by have h1 : u1 = _ := h1; subst u1; exact Err_ok _ _ _ _ _ _ _ W _ (own_bo71_29.ext hk))) ?_
 refine .i (sp_eql (hlc rfl) Has.cst) ?_
 refine .i (sp_and (hbs rfl e77) ((hlc rfl).toU)) ?_
 refine .i (sp_move (hlc rfl)) ?_
 refine .dn fun a35 g W35 y35 zz35 hk hg hV hR hP => ?_
 refine tail_nil ?_
 show runTail _ _ _ _ _ _
 obtain ⟨e82, -, -, -, -, -⟩ := hV
 replace e6 := ft hR e6
 replace e7 := ft hR e7
 replace D_cn71_29 := D_cn71_29.ext hk
 replace D_ci71_29 := D_ci71_29.ext hk
 replace D_cn73_30 := D_cn73_30.ext hk
 replace D_ci73_30 := D_ci73_30.ext hk
 replace e82 := e82.q
 replace own_b1_4 := own_b1_4.ext hk
 replace own_b3_8 := own_b3_8.ext hk
 replace own_bo41_15 := own_bo41_15.ext hk
 replace own_bm41_15 := own_bm41_15.ext hk
 replace own_bo71_29 := own_bo71_29.ext hk
 replace own_bm71_29 := own_bm71_29.ext hk
 replace own_bo73_30 := own_bo73_30.ext hk
 replace own_bm73_30 := own_bm73_30.ext hk
 replace kw := kw.x hk
 clear hR hk hg hP
 refine tail_ung 8 82 true rfl 3 rfl (e82.trans (congrArg Value.bool (by kernel_rfl))) ?_
 refine tail_reg 2 (fun k => k ∉ [bo71_29, bm71_29]) (Ψ := fun W => Own W bo71_29 [(.int .u8 ((objM ([Mb.mk (⟨#[98]⟩) (V.mk (3) (0) (⟨#[120]⟩) ([]) ([])), Mb.mk (⟨#[97]⟩) (V.mk (2) (1) (⟨#[]⟩) ([]) ([]))])).k)), (.int .i64 ((objM ([Mb.mk (⟨#[98]⟩) (V.mk (3) (0) (⟨#[120]⟩) ([]) ([])), Mb.mk (⟨#[97]⟩) (V.mk (2) (1) (⟨#[]⟩) ([]) ([]))])).n)), (.string ((objM ([Mb.mk (⟨#[98]⟩) (V.mk (3) (0) (⟨#[120]⟩) ([]) ([])), Mb.mk (⟨#[97]⟩) (V.mk (2) (1) (⟨#[]⟩) ([]) ([]))])).t)), (.slice cn71_29a (((objM ([Mb.mk (⟨#[98]⟩) (V.mk (3) (0) (⟨#[120]⟩) ([]) ([])), Mb.mk (⟨#[97]⟩) (V.mk (2) (1) (⟨#[]⟩) ([]) ([]))])).ns).length) cn71_29c), (.slice ci71_29a (((objM ([Mb.mk (⟨#[98]⟩) (V.mk (3) (0) (⟨#[120]⟩) ([]) ([])), Mb.mk (⟨#[97]⟩) (V.mk (2) (1) (⟨#[]⟩) ([]) ([]))])).xs).length) ci71_29c), (.map (some bm71_29)), (.int .i64 (tkE (objM ([Mb.mk (⟨#[98]⟩) (V.mk (3) (0) (⟨#[120]⟩) ([]) ([])), Mb.mk (⟨#[97]⟩) (V.mk (2) (1) (⟨#[]⟩) ([]) ([]))])) 0 ⟨#[97]⟩ (numE 2 9)))] 74 ∧ OwnM W bm71_29 (tkA (objM ([Mb.mk (⟨#[98]⟩) (V.mk (3) (0) (⟨#[120]⟩) ([]) ([])), Mb.mk (⟨#[97]⟩) (V.mk (2) (1) (⟨#[]⟩) ([]) ([]))])) ([]) 0 ⟨#[97]⟩ (numE 2 9))) y35 zz35 (stE_and stE_own stE_ownM) ⟨own_bo71_29, own_bm71_29⟩ rfl ?_
 refine .mb rfl e6 ?_
 refine .callL2 (φ1 := Is (.pointer (some ⟨bo71_29, 0, none⟩))) (φ2 := Is (.string (⟨#[98]⟩))) (φ := Is (.string (if tkB (objM ([Mb.mk (⟨#[98]⟩) (V.mk (3) (0) (⟨#[120]⟩) ([]) ([])), Mb.mk (⟨#[97]⟩) (V.mk (2) (1) (⟨#[]⟩) ([]) ([]))])) (tkE (objM ([Mb.mk (⟨#[98]⟩) (V.mk (3) (0) (⟨#[120]⟩) ([]) ([])), Mb.mk (⟨#[97]⟩) (V.mk (2) (1) (⟨#[]⟩) ([]) ([]))])) 0 ⟨#[97]⟩ (numE 2 9)) ⟨#[98]⟩ textE then textV (getV (objM ([Mb.mk (⟨#[98]⟩) (V.mk (3) (0) (⟨#[120]⟩) ([]) ([])), Mb.mk (⟨#[97]⟩) (V.mk (2) (1) (⟨#[]⟩) ([]) ([]))])) ⟨#[98]⟩) else ⟨#[]⟩))) (Ψ' := fun W => Own W bo71_29 [(.int .u8 ((objM ([Mb.mk (⟨#[98]⟩) (V.mk (3) (0) (⟨#[120]⟩) ([]) ([])), Mb.mk (⟨#[97]⟩) (V.mk (2) (1) (⟨#[]⟩) ([]) ([]))])).k)), (.int .i64 ((objM ([Mb.mk (⟨#[98]⟩) (V.mk (3) (0) (⟨#[120]⟩) ([]) ([])), Mb.mk (⟨#[97]⟩) (V.mk (2) (1) (⟨#[]⟩) ([]) ([]))])).n)), (.string ((objM ([Mb.mk (⟨#[98]⟩) (V.mk (3) (0) (⟨#[120]⟩) ([]) ([])), Mb.mk (⟨#[97]⟩) (V.mk (2) (1) (⟨#[]⟩) ([]) ([]))])).t)), (.slice cn71_29a (((objM ([Mb.mk (⟨#[98]⟩) (V.mk (3) (0) (⟨#[120]⟩) ([]) ([])), Mb.mk (⟨#[97]⟩) (V.mk (2) (1) (⟨#[]⟩) ([]) ([]))])).ns).length) cn71_29c), (.slice ci71_29a (((objM ([Mb.mk (⟨#[98]⟩) (V.mk (3) (0) (⟨#[120]⟩) ([]) ([])), Mb.mk (⟨#[97]⟩) (V.mk (2) (1) (⟨#[]⟩) ([]) ([]))])).xs).length) ci71_29c), (.map (some bm71_29)), (.int .i64 (tkE (objM ([Mb.mk (⟨#[98]⟩) (V.mk (3) (0) (⟨#[120]⟩) ([]) ([])), Mb.mk (⟨#[97]⟩) (V.mk (2) (1) (⟨#[]⟩) ([]) ([]))])) (tkE (objM ([Mb.mk (⟨#[98]⟩) (V.mk (3) (0) (⟨#[120]⟩) ([]) ([])), Mb.mk (⟨#[97]⟩) (V.mk (2) (1) (⟨#[]⟩) ([]) ([]))])) 0 ⟨#[97]⟩ (numE 2 9)) ⟨#[98]⟩ textE))] 74 ∧ OwnM W bm71_29 (tkA (objM ([Mb.mk (⟨#[98]⟩) (V.mk (3) (0) (⟨#[120]⟩) ([]) ([])), Mb.mk (⟨#[97]⟩) (V.mk (2) (1) (⟨#[]⟩) ([]) ([]))])) (tkA (objM ([Mb.mk (⟨#[98]⟩) (V.mk (3) (0) (⟨#[120]⟩) ([]) ([])), Mb.mk (⟨#[97]⟩) (V.mk (2) (1) (⟨#[]⟩) ([]) ([]))])) ([]) 0 ⟨#[97]⟩ (numE 2 9)) (tkE (objM ([Mb.mk (⟨#[98]⟩) (V.mk (3) (0) (⟨#[120]⟩) ([]) ([])), Mb.mk (⟨#[97]⟩) (V.mk (2) (1) (⟨#[]⟩) ([]) ([]))])) 0 ⟨#[97]⟩ (numE 2 9)) ⟨#[98]⟩ textE)) ent43 (hlc rfl) Has.cst (st_is _) (stE_and stE_own stE_ownM) (fun g u1 u2 W hk hg h1 h2 hP => by have h1 : u1 = _ := h1; subst u1; have h2 : u2 = _ := h2; subst u2; exact (Text_ok ((objM ([Mb.mk (⟨#[98]⟩) (V.mk (3) (0) (⟨#[120]⟩) ([]) ([])), Mb.mk (⟨#[97]⟩) (V.mk (2) (1) (⟨#[]⟩) ([]) ([]))]))) (tkA (objM ([Mb.mk (⟨#[98]⟩) (V.mk (3) (0) (⟨#[120]⟩) ([]) ([])), Mb.mk (⟨#[97]⟩) (V.mk (2) (1) (⟨#[]⟩) ([]) ([]))])) ([]) 0 ⟨#[97]⟩ (numE 2 9)) (tkE (objM ([Mb.mk (⟨#[98]⟩) (V.mk (3) (0) (⟨#[120]⟩) ([]) ([])), Mb.mk (⟨#[97]⟩) (V.mk (2) (1) (⟨#[]⟩) ([]) ([]))])) 0 ⟨#[97]⟩ (numE 2 9)) (AB.nil.tk.mono (by omega)) (Nat.le_of_ble_eq_true (by kernel_rfl)) tb71_29 ⟨#[98]⟩ W _ _ _ _ _ (fun b o h => h.2.1) (sf_notin (by simp)) ne_bo71_29_bm71_29 (sf_keepL D_cn71_29 hk (by simp)) (sf_keepL D_ci71_29 hk (by simp)) hP.1 hP.2)) ?_
 refine .dn fun a36 g W36 y36 zz36 hk hg hV hR hP => ?_
 refine tail_nil ?_
 show runTail _ _ _ _ _ _
 obtain ⟨e84, -, -⟩ := hV
 replace e7 := ft hR e7
 replace e82 := ft hR e82
 replace e84 := e84.q
 replace D_cn71_29 := sf_keepL D_cn71_29 hk (by simp)
 replace D_ci71_29 := sf_keepL D_ci71_29 hk (by simp)
 replace D_cn73_30 := sf_keepL D_cn73_30 hk (by simp)
 replace D_ci73_30 := sf_keepL D_ci73_30 hk (by simp)
 replace own_b1_4 := own_keepL own_b1_4 hk (by simp [ne_b1_4_bo71_29, ne_b1_4_bm71_29])
 replace own_b3_8 := own_keepL own_b3_8 hk (by simp [ne_b3_8_bo71_29, ne_b3_8_bm71_29])
 replace own_bo41_15 := own_keepL own_bo41_15 hk (by simp [ne_bo41_15_bo71_29, ne_bo41_15_bm71_29])
 replace own_bm41_15 := ownM_keepL own_bm41_15 hk (by simp [ne_bm41_15_bo71_29, ne_bm41_15_bm71_29])
 replace own_bo73_30 := own_keepL own_bo73_30 hk (by simp [ne_bo71_29_bo73_30.symm, ne_bm71_29_bo73_30.symm])
 replace own_bm73_30 := ownM_keepL own_bm73_30 hk (by simp [ne_bo71_29_bm73_30.symm, ne_bm71_29_bm73_30.symm])
 obtain ⟨own_bo71_29, own_bm71_29⟩ := hP
 replace own_bo71_29 : Own W36 bo71_29 [(.int .u8 ((objM ([Mb.mk (⟨#[98]⟩) (V.mk (3) (0) (⟨#[120]⟩) ([]) ([])), Mb.mk (⟨#[97]⟩) (V.mk (2) (1) (⟨#[]⟩) ([]) ([]))])).k)), (.int .i64 ((objM ([Mb.mk (⟨#[98]⟩) (V.mk (3) (0) (⟨#[120]⟩) ([]) ([])), Mb.mk (⟨#[97]⟩) (V.mk (2) (1) (⟨#[]⟩) ([]) ([]))])).n)), (.string ((objM ([Mb.mk (⟨#[98]⟩) (V.mk (3) (0) (⟨#[120]⟩) ([]) ([])), Mb.mk (⟨#[97]⟩) (V.mk (2) (1) (⟨#[]⟩) ([]) ([]))])).t)), (.slice cn71_29a (((objM ([Mb.mk (⟨#[98]⟩) (V.mk (3) (0) (⟨#[120]⟩) ([]) ([])), Mb.mk (⟨#[97]⟩) (V.mk (2) (1) (⟨#[]⟩) ([]) ([]))])).ns).length) cn71_29c), (.slice ci71_29a (((objM ([Mb.mk (⟨#[98]⟩) (V.mk (3) (0) (⟨#[120]⟩) ([]) ([])), Mb.mk (⟨#[97]⟩) (V.mk (2) (1) (⟨#[]⟩) ([]) ([]))])).xs).length) ci71_29c), (.map (some bm71_29)), (.int .i64 (tkE (objM ([Mb.mk (⟨#[98]⟩) (V.mk (3) (0) (⟨#[120]⟩) ([]) ([])), Mb.mk (⟨#[97]⟩) (V.mk (2) (1) (⟨#[]⟩) ([]) ([]))])) (tkE (objM ([Mb.mk (⟨#[98]⟩) (V.mk (3) (0) (⟨#[120]⟩) ([]) ([])), Mb.mk (⟨#[97]⟩) (V.mk (2) (1) (⟨#[]⟩) ([]) ([]))])) 0 ⟨#[97]⟩ (numE 2 9)) ⟨#[98]⟩ textE))] 74 := own_bo71_29
 replace own_bm71_29 : OwnM W36 bm71_29 (tkA (objM ([Mb.mk (⟨#[98]⟩) (V.mk (3) (0) (⟨#[120]⟩) ([]) ([])), Mb.mk (⟨#[97]⟩) (V.mk (2) (1) (⟨#[]⟩) ([]) ([]))])) (tkA (objM ([Mb.mk (⟨#[98]⟩) (V.mk (3) (0) (⟨#[120]⟩) ([]) ([])), Mb.mk (⟨#[97]⟩) (V.mk (2) (1) (⟨#[]⟩) ([]) ([]))])) ([]) 0 ⟨#[97]⟩ (numE 2 9)) (tkE (objM ([Mb.mk (⟨#[98]⟩) (V.mk (3) (0) (⟨#[120]⟩) ([]) ([])), Mb.mk (⟨#[97]⟩) (V.mk (2) (1) (⟨#[]⟩) ([]) ([]))])) 0 ⟨#[97]⟩ (numE 2 9)) ⟨#[98]⟩ textE) := own_bm71_29
 replace kw := keeps_L kw hk (in_cons (.inl lo_bo71_29) (in_cons (.inl lo_bm71_29) in_nil))
 clear hR hk hg
 refine tail_reg 3 All y36 zz36 st_tr trivial rfl ?_
 refine .i (sp_sEql (hbs rfl e84) Has.cst) ?_
 refine .i (sp_and (hbs rfl e82) ((hlc rfl).toU)) ?_
 refine .i (sp_move (hlc rfl)) ?_
 refine .dn fun a37 g W37 y37 zz37 hk hg hV hR hP => ?_
 refine tail_nil ?_
 show runTail _ _ _ _ _ _
 obtain ⟨e87, -, -, -⟩ := hV
 replace e7 := ft hR e7
 replace D_cn73_30 := D_cn73_30.ext hk
 replace D_ci73_30 := D_ci73_30.ext hk
 replace e87 := e87.q
 replace own_b1_4 := own_b1_4.ext hk
 replace own_b3_8 := own_b3_8.ext hk
 replace own_bo41_15 := own_bo41_15.ext hk
 replace own_bm41_15 := own_bm41_15.ext hk
 replace own_bo71_29 := own_bo71_29.ext hk
 replace own_bm71_29 := own_bm71_29.ext hk
 replace own_bo73_30 := own_bo73_30.ext hk
 replace own_bm73_30 := own_bm73_30.ext hk
 replace kw := kw.x hk
 clear hR hk hg hP
 refine tail_ung 13 87 true rfl 3 rfl (e87.trans (congrArg Value.bool (by kernel_rfl))) ?_
 refine tail_reg 2 (fun k => k ∉ [bo73_30, bm73_30]) (Ψ := fun W => Own W bo73_30 [(.int .u8 ((objM ([Mb.mk (⟨#[98]⟩) (V.mk (3) (0) (⟨#[120]⟩) ([]) ([])), Mb.mk (⟨#[97]⟩) (V.mk (2) (1) (⟨#[]⟩) ([]) ([]))])).k)), (.int .i64 ((objM ([Mb.mk (⟨#[98]⟩) (V.mk (3) (0) (⟨#[120]⟩) ([]) ([])), Mb.mk (⟨#[97]⟩) (V.mk (2) (1) (⟨#[]⟩) ([]) ([]))])).n)), (.string ((objM ([Mb.mk (⟨#[98]⟩) (V.mk (3) (0) (⟨#[120]⟩) ([]) ([])), Mb.mk (⟨#[97]⟩) (V.mk (2) (1) (⟨#[]⟩) ([]) ([]))])).t)), (.slice cn73_30a (((objM ([Mb.mk (⟨#[98]⟩) (V.mk (3) (0) (⟨#[120]⟩) ([]) ([])), Mb.mk (⟨#[97]⟩) (V.mk (2) (1) (⟨#[]⟩) ([]) ([]))])).ns).length) cn73_30c), (.slice ci73_30a (((objM ([Mb.mk (⟨#[98]⟩) (V.mk (3) (0) (⟨#[120]⟩) ([]) ([])), Mb.mk (⟨#[97]⟩) (V.mk (2) (1) (⟨#[]⟩) ([]) ([]))])).xs).length) ci73_30c), (.map (some bm73_30)), (.int .i64 (0))] 74 ∧ OwnM W bm73_30 ([])) y37 zz37 (stE_and stE_own stE_ownM) ⟨own_bo73_30, own_bm73_30⟩ rfl ?_
 refine .mb rfl e7 ?_
 refine .callL2 (φ1 := Is (.pointer (some ⟨bo73_30, 0, none⟩))) (φ2 := Is (.string (⟨#[97]⟩))) (φ := Is (.bool (if tkB (objM ([Mb.mk (⟨#[98]⟩) (V.mk (3) (0) (⟨#[120]⟩) ([]) ([])), Mb.mk (⟨#[97]⟩) (V.mk (2) (1) (⟨#[]⟩) ([]) ([]))])) 0 ⟨#[97]⟩ boolE then boolV (getV (objM ([Mb.mk (⟨#[98]⟩) (V.mk (3) (0) (⟨#[120]⟩) ([]) ([])), Mb.mk (⟨#[97]⟩) (V.mk (2) (1) (⟨#[]⟩) ([]) ([]))])) ⟨#[97]⟩) else false))) (Ψ' := fun W => Own W bo73_30 [(.int .u8 ((objM ([Mb.mk (⟨#[98]⟩) (V.mk (3) (0) (⟨#[120]⟩) ([]) ([])), Mb.mk (⟨#[97]⟩) (V.mk (2) (1) (⟨#[]⟩) ([]) ([]))])).k)), (.int .i64 ((objM ([Mb.mk (⟨#[98]⟩) (V.mk (3) (0) (⟨#[120]⟩) ([]) ([])), Mb.mk (⟨#[97]⟩) (V.mk (2) (1) (⟨#[]⟩) ([]) ([]))])).n)), (.string ((objM ([Mb.mk (⟨#[98]⟩) (V.mk (3) (0) (⟨#[120]⟩) ([]) ([])), Mb.mk (⟨#[97]⟩) (V.mk (2) (1) (⟨#[]⟩) ([]) ([]))])).t)), (.slice cn73_30a (((objM ([Mb.mk (⟨#[98]⟩) (V.mk (3) (0) (⟨#[120]⟩) ([]) ([])), Mb.mk (⟨#[97]⟩) (V.mk (2) (1) (⟨#[]⟩) ([]) ([]))])).ns).length) cn73_30c), (.slice ci73_30a (((objM ([Mb.mk (⟨#[98]⟩) (V.mk (3) (0) (⟨#[120]⟩) ([]) ([])), Mb.mk (⟨#[97]⟩) (V.mk (2) (1) (⟨#[]⟩) ([]) ([]))])).xs).length) ci73_30c), (.map (some bm73_30)), (.int .i64 (tkE (objM ([Mb.mk (⟨#[98]⟩) (V.mk (3) (0) (⟨#[120]⟩) ([]) ([])), Mb.mk (⟨#[97]⟩) (V.mk (2) (1) (⟨#[]⟩) ([]) ([]))])) 0 ⟨#[97]⟩ boolE))] 74 ∧ OwnM W bm73_30 (tkA (objM ([Mb.mk (⟨#[98]⟩) (V.mk (3) (0) (⟨#[120]⟩) ([]) ([])), Mb.mk (⟨#[97]⟩) (V.mk (2) (1) (⟨#[]⟩) ([]) ([]))])) ([]) 0 ⟨#[97]⟩ boolE)) ent45 (hlc rfl) Has.cst (st_is _) (stE_and stE_own stE_ownM) (fun g u1 u2 W hk hg h1 h2 hP => by have h1 : u1 = _ := h1; subst u1; have h2 : u2 = _ := h2; subst u2; exact (Bool_ok ((objM ([Mb.mk (⟨#[98]⟩) (V.mk (3) (0) (⟨#[120]⟩) ([]) ([])), Mb.mk (⟨#[97]⟩) (V.mk (2) (1) (⟨#[]⟩) ([]) ([]))]))) ([]) (0) (AB.nil.mono (by omega)) (Nat.le_of_ble_eq_true (by kernel_rfl)) tb73_30 ⟨#[97]⟩ W _ _ _ _ _ (fun b o h => h.2.1) (sf_notin (by simp)) ne_bo73_30_bm73_30 (sf_keepL D_cn73_30 hk (by simp)) (sf_keepL D_ci73_30 hk (by simp)) hP.1 hP.2)) ?_
 refine .dn fun a38 g W38 y38 zz38 hk hg hV hR hP => ?_
 refine tail_nil ?_
 show runTail _ _ _ _ _ _
 obtain ⟨e89, -, -⟩ := hV
 replace e7 := ft hR e7
 replace e87 := ft hR e87
 replace e89 := e89.q
 replace D_cn73_30 := sf_keepL D_cn73_30 hk (by simp)
 replace D_ci73_30 := sf_keepL D_ci73_30 hk (by simp)
 replace own_b1_4 := own_keepL own_b1_4 hk (by simp [ne_b1_4_bo73_30, ne_b1_4_bm73_30])
 replace own_b3_8 := own_keepL own_b3_8 hk (by simp [ne_b3_8_bo73_30, ne_b3_8_bm73_30])
 replace own_bo41_15 := own_keepL own_bo41_15 hk (by simp [ne_bo41_15_bo73_30, ne_bo41_15_bm73_30])
 replace own_bm41_15 := ownM_keepL own_bm41_15 hk (by simp [ne_bm41_15_bo73_30, ne_bm41_15_bm73_30])
 replace own_bo71_29 := own_keepL own_bo71_29 hk (by simp [ne_bo71_29_bo73_30, ne_bo71_29_bm73_30])
 replace own_bm71_29 := ownM_keepL own_bm71_29 hk (by simp [ne_bm71_29_bo73_30, ne_bm71_29_bm73_30])
 obtain ⟨own_bo73_30, own_bm73_30⟩ := hP
 replace own_bo73_30 : Own W38 bo73_30 [(.int .u8 ((objM ([Mb.mk (⟨#[98]⟩) (V.mk (3) (0) (⟨#[120]⟩) ([]) ([])), Mb.mk (⟨#[97]⟩) (V.mk (2) (1) (⟨#[]⟩) ([]) ([]))])).k)), (.int .i64 ((objM ([Mb.mk (⟨#[98]⟩) (V.mk (3) (0) (⟨#[120]⟩) ([]) ([])), Mb.mk (⟨#[97]⟩) (V.mk (2) (1) (⟨#[]⟩) ([]) ([]))])).n)), (.string ((objM ([Mb.mk (⟨#[98]⟩) (V.mk (3) (0) (⟨#[120]⟩) ([]) ([])), Mb.mk (⟨#[97]⟩) (V.mk (2) (1) (⟨#[]⟩) ([]) ([]))])).t)), (.slice cn73_30a (((objM ([Mb.mk (⟨#[98]⟩) (V.mk (3) (0) (⟨#[120]⟩) ([]) ([])), Mb.mk (⟨#[97]⟩) (V.mk (2) (1) (⟨#[]⟩) ([]) ([]))])).ns).length) cn73_30c), (.slice ci73_30a (((objM ([Mb.mk (⟨#[98]⟩) (V.mk (3) (0) (⟨#[120]⟩) ([]) ([])), Mb.mk (⟨#[97]⟩) (V.mk (2) (1) (⟨#[]⟩) ([]) ([]))])).xs).length) ci73_30c), (.map (some bm73_30)), (.int .i64 (tkE (objM ([Mb.mk (⟨#[98]⟩) (V.mk (3) (0) (⟨#[120]⟩) ([]) ([])), Mb.mk (⟨#[97]⟩) (V.mk (2) (1) (⟨#[]⟩) ([]) ([]))])) 0 ⟨#[97]⟩ boolE))] 74 := own_bo73_30
 replace own_bm73_30 : OwnM W38 bm73_30 (tkA (objM ([Mb.mk (⟨#[98]⟩) (V.mk (3) (0) (⟨#[120]⟩) ([]) ([])), Mb.mk (⟨#[97]⟩) (V.mk (2) (1) (⟨#[]⟩) ([]) ([]))])) ([]) 0 ⟨#[97]⟩ boolE) := own_bm73_30
 replace kw := keeps_L kw hk (in_cons (.inl lo_bo73_30) (in_cons (.inl lo_bm73_30) in_nil))
 clear hR hk hg
 refine tail_reg 3 All y38 zz38 st_tr trivial rfl ?_
 refine .i (sp_not (hbs rfl e89)) ?_
 refine .i (sp_and (hbs rfl e87) ((hlc rfl).toU)) ?_
 refine .i (sp_move (hlc rfl)) ?_
 refine .dn fun a39 g W39 y39 zz39 hk hg hV hR hP => ?_
 refine tail_nil ?_
 show runTail _ _ _ _ _ _
 obtain ⟨e92, -, -, -⟩ := hV
 replace e7 := ft hR e7
 replace D_cn73_30 := D_cn73_30.ext hk
 replace D_ci73_30 := D_ci73_30.ext hk
 replace e92 := e92.q
 replace own_b1_4 := own_b1_4.ext hk
 replace own_b3_8 := own_b3_8.ext hk
 replace own_bo41_15 := own_bo41_15.ext hk
 replace own_bm41_15 := own_bm41_15.ext hk
 replace own_bo71_29 := own_bo71_29.ext hk
 replace own_bm71_29 := own_bm71_29.ext hk
 replace own_bo73_30 := own_bo73_30.ext hk
 replace own_bm73_30 := own_bm73_30.ext hk
 replace kw := kw.x hk
 clear hR hk hg hP
 refine tail_ung 18 92 true rfl 3 rfl (e92.trans (congrArg Value.bool (by kernel_rfl))) ?_
 refine tail_reg 5 All y39 zz39 st_tr trivial rfl ?_
 refine .mb rfl e7 ?_
 refine .i (v := (.int .i64 (errK ((objM ([Mb.mk (⟨#[98]⟩) (V.mk (3) (0) (⟨#[120]⟩) ([]) ([])), Mb.mk (⟨#[97]⟩) (V.mk (2) (1) (⟨#[]⟩) ([]) ([]))])).k) (tkE (objM ([Mb.mk (⟨#[98]⟩) (V.mk (3) (0) (⟨#[120]⟩) ([]) ([])), Mb.mk (⟨#[97]⟩) (V.mk (2) (1) (⟨#[]⟩) ([]) ([]))])) 0 ⟨#[97]⟩ boolE)))) (sp_call1 (φ1 := Is (.pointer (some ⟨bo73_30, 0, none⟩))) ent24 (hlc rfl) (fun g u1 W hk hgk h1 => by have h1 : u1 = _ := h1; subst u1; exact Err_ok _ _ _ _ _ _ _ W _ (own_bo73_30.ext hk))) ?_
 refine .i (sp_eql (hlc rfl) Has.cst) ?_
 refine .i (sp_and (hbs rfl e92) ((hlc rfl).toU)) ?_
 refine .al rfl ?_
 refine .dn fun a40 g W40 y40 zz40 hk hg hV hR hP => ?_
 refine tail_nil ?_
 show runTail _ _ _ _ _ _
 obtain ⟨e0, -, -, -, -, -⟩ := hV
 replace D_cn73_30 := D_cn73_30.ext hk
 replace D_ci73_30 := D_ci73_30.ext hk
 replace e0 := e0.q
 replace own_b1_4 := own_b1_4.ext hk
 replace own_b3_8 := own_b3_8.ext hk
 replace own_bo41_15 := own_bo41_15.ext hk
 replace own_bm41_15 := own_bm41_15.ext hk
 replace own_bo71_29 := own_bo71_29.ext hk
 replace own_bm71_29 := own_bm71_29.ext hk
 replace own_bo73_30 := own_bo73_30.ext hk
 replace own_bm73_30 := own_bm73_30.ext hk
 replace kw := kw.x hk
 clear hR hk hg hP
 refine zn (hK32 _ _ ?_)
 refine wp_ret ?_
 refine ret1 rfl zz40 e0 ⟨_, rfl, kw, ?_⟩
 exact congrArg Value.bool (by kernel_rfl)
end Go.Proofs.Ytnobijngkpflcaa
namespace Go.Eng
def grO : List ByteArray → List V → ByteArray → Option V
  | [], _, _ => none
  | n :: ns, xs, m => if n = m then xs.head? else grO ns xs.tail m
def grR (x : V) (m : ByteArray) : Option V := if x.k = 5 then grO x.ns x.xs m else none
def grB (x : V) (m : ByteArray) : Bool := (grR x m).isSome
def grV (x : V) (m : ByteArray) : V := (grR x m).getD V.zero
theorem gr_hit {ns : List ByteArray} {xs : List V} {m : ByteArray} {k : Nat} (h : k < ns.length) (he : ns[k] = m) : grO (ns.drop k) (xs.drop k) m = xs[k]? := by
  rw [List.drop_eq_getElem_cons h, grO, if_pos he, List.head?_drop]
theorem gr_miss {ns : List ByteArray} {xs : List V} {m : ByteArray} {k : Nat} (h : k < ns.length) (he : ns[k] ≠ m) : grO (ns.drop k) (xs.drop k) m = grO (ns.drop (k + 1)) (xs.drop (k + 1)) m := by
  rw [List.drop_eq_getElem_cons h, grO, if_neg he, List.tail_drop]
def rtE (x : V) (m : ByteArray) (kd : Nat) : Int := if grB x m = false then 6 else if kd ≠ 0 ∧ (grV x m).k ≠ kd then 10 else 0
def rtB (x : V) (m : ByteArray) (kd : Nat) : Bool := decide (rtE x m kd = 0)
def rtV (x : V) (m : ByteArray) (kd : Nat) : V := if rtE x m kd = 0 then grV x m else V.zero
theorem rt_ok {x : V} {m : ByteArray} {kd : Nat} (h : rtE x m kd = 0) : rtB x m kd = true ∧ rtV x m kd = grV x m := by rw [rtB, rtV, h]; exact ⟨rfl, rfl⟩
theorem rt_no {x : V} {m : ByteArray} {kd : Nat} {e : Int} (h : rtE x m kd = e) (he : e ≠ 0) : rtB x m kd = false ∧ rtV x m kd = V.zero := by
  rw [rtB, rtV, h, if_neg he]
  exact ⟨decide_eq_false he, rfl⟩
def rbig (x : V) (m : ByteArray) (kd : Nat) (mo : Int) : Bool := rtB x m kd && decide (mo < ((rtV x m kd).xs.length : Int))
def rnN' (x : V) (m : ByteArray) (lo hi : Int) : Int := if rtB x m 2 = true ∧ ((rtV x m 2).n < lo ∨ hi < (rtV x m 2).n) then 0 else (rtV x m 2).n
def rlL (x : V) (m : ByteArray) (mo : Int) : List V := if rbig x m 4 mo = true then [] else (rtV x m 4).xs
def rlE (x : V) (m : ByteArray) (mo : Int) : Int := if rbig x m 4 mo = true then 5 else rtE x m 4
def roV (x : V) (m : ByteArray) (mo : Int) : V := if rbig x m 5 mo = true then V.zero else rtV x m 5
def rxT (l : List V) : List ByteArray := if l.all (fun y => y.k == 3) then l.map V.t else []
theorem rxT_no {l : List V} {k : Nat} (h : k < l.length) (hk : l[k].k ≠ 3) : rxT l = [] := by
  rw [rxT, if_neg]
  intro h2
  exact hk (by simpa using List.all_eq_true.1 h2 _ (List.getElem_mem h))
theorem rxT_yes {l : List V} (h : ∀ i (hi : i < l.length), l[i].k = 3) : rxT l = l.map V.t := by
  rw [rxT, if_pos]
  rw [List.all_eq_true]
  intro y hy
  obtain ⟨i, hi, rfl⟩ := List.getElem_of_mem hy
  simp [h i hi]
def aR (x : V) (e : Int) (y : V) (c : Cl) : Bool :=
  if c.wh = 0 then (decide (errK x.k e = 0) && getB x c.nm) == grB y c.nm
  else if c.wh = 1 then decide ((if tkB x e c.nm textE then textV (getV x c.nm) else ⟨#[]⟩) = (rtV y c.nm 3).t)
  else if c.wh = 2 then (if tkB x e c.nm (numE c.lo c.hi) then numV c.lo c.hi (getV x c.nm) else 0) == rnN' y c.nm c.lo c.hi
  else if c.wh = 3 then (if tkB x e c.nm boolE then boolV (getV x c.nm) else false) == ((rtV y c.nm 1).n == 1)
  else if c.wh = 4 then V.beq (V.mk 0 0 ⟨#[]⟩ [] (if tkB x e c.nm (listE c.mo) then listV c.mo (getV x c.nm) else [])) (V.mk 0 0 ⟨#[]⟩ [] (rlL y c.nm c.mo))
  else if c.wh = 5 then decide ((if tkB x e c.nm (textsE c.mo) then textsL c.mo (getV x c.nm) else []) = rxT (rlL y c.nm c.mo))
  else if c.wh = 6 then V.beq (if tkB x e c.nm (obE c.mo) then obV c.mo (getV x c.nm) else ⟨0, 0, ⟨#[]⟩, [], []⟩) (roV y c.nm c.mo)
  else if c.wh = 7 then V.beq (if tkB x e c.nm anyE then getV x c.nm else ⟨0, 0, ⟨#[]⟩, [], []⟩) (rtV y c.nm 0)
  else true
def isLeaf (v : V) : Bool := v.ns.isEmpty && v.xs.isEmpty
theorem isLeaf_out {v : V} (h : isLeaf v = true) : v.ns = [] ∧ v.xs = [] := by
  unfold isLeaf at h
  rw [Bool.and_eq_true, List.isEmpty_iff, List.isEmpty_iff] at h
  exact h
def leafA (x : V) (e : Int) (c : Cl) : Bool :=
  if c.wh = 4 then (if tkB x e c.nm (listE c.mo) then listV c.mo (getV x c.nm) else []).all isLeaf && (V.mk 0 0 ⟨#[]⟩ [] (if tkB x e c.nm (listE c.mo) then listV c.mo (getV x c.nm) else [])).cnt.ble 1073741824
  else if c.wh = 6 then isLeaf (if tkB x e c.nm (obE c.mo) then obV c.mo (getV x c.nm) else ⟨0, 0, ⟨#[]⟩, [], []⟩)
  else if c.wh = 7 then isLeaf (if tkB x e c.nm anyE then getV x c.nm else ⟨0, 0, ⟨#[]⟩, [], []⟩)
  else true
theorem stE_tr : StableE fun _ => True := fun _ _ _ h => h
theorem stE_ownX {b : Nat} {f : Value → List Value} {T : TypeId} : StableE fun W => ∃ v, Own W b (f v) T := fun _ _ k ⟨v, h⟩ => ⟨v, h.ext k⟩
end Go.Eng
namespace Go.Eng
def IsP (p : Value → Prop) : Fact := fun _ u _ => p u
theorem st_p {S : Nat → Prop} {p : Value → Prop} : Stable S (IsP p) := ⟨fun _ _ _ _ _ h => h, fun _ _ _ _ _ _ h => h⟩
end Go.Eng
namespace Go.Eng
def RetN (W : World) (n : Nat) (φ : Value → World → Prop) : Ending → World → Prop := fun e W' => ∃ v, e = .returned v ∧ Keeps (fun k => k < n) W W' ∧ φ v W'
def WRow (W : World) (n sz m : Nat) (v : Value) : Prop := ∃ a c, v = .slice a m c ∧ (m = 0 ∨ ∃ b o cs T, a = some ⟨b, o, none⟩ ∧ n ≤ b ∧ Own W b cs T ∧ o + m * sz ≤ cs.length)
def LeafAt (cs : List Value) (o : Nat) : Prop := ∃ k n t a c a2 c2, cs[o]? = some (.int .u8 k) ∧ cs[o + 1]? = some (.int .i64 n) ∧ cs[o + 2]? = some (.string t) ∧ cs[o + 3]? = some (.slice a 0 c) ∧ cs[o + 4]? = some (.slice a2 0 c2)
def LeafV (v : Value) : Prop := ∃ k n t a c a2 c2, v = .agg #[.int .u8 k, .int .i64 n, .string t, .slice a 0 c, .slice a2 0 c2]
def LRow (W : World) (n m : Nat) (v : Value) : Prop := ∃ a c, v = .slice a m c ∧ (m = 0 ∨ ∃ b o cs T, a = some ⟨b, o, none⟩ ∧ n ≤ b ∧ Own W b cs T ∧ o + m * 5 ≤ cs.length ∧ ∀ i, i < m → LeafAt cs (o + i * 5))
theorem WRow.ext {W W' : World} {n sz m : Nat} {v : Value} (h : WRow W n sz m v) (k : Ext W W') : WRow W' n sz m v := by
  obtain ⟨a, c, e, h⟩ := h
  refine ⟨a, c, e, h.imp id ?_⟩
  rintro ⟨b, o, cs, T, h1, h2, h3, h4⟩
  exact ⟨b, o, cs, T, h1, h2, h3.ext k, h4⟩
theorem LRow.ext {W W' : World} {n m : Nat} {v : Value} (h : LRow W n m v) (k : Ext W W') : LRow W' n m v := by
  obtain ⟨a, c, e, h⟩ := h
  refine ⟨a, c, e, h.imp id ?_⟩
  rintro ⟨b, o, cs, T, h1, h2, h3, h4⟩
  exact ⟨b, o, cs, T, h1, h2, h3.ext k, h4⟩
theorem wrow_some {W : World} {n sz m c i : Nat} {a : Option Addr} (h : WRow W n sz m (.slice a m c)) (hi : i < m) : ∃ b o, a = some ⟨b, o, none⟩ := by
  obtain ⟨a', c', e, h⟩ := h
  injection e with e1 _ _
  subst e1
  rcases h with h | ⟨b, o, cs, T, h1, _⟩
  · omega
  · exact ⟨b, o, h1⟩
theorem lrow_some {W : World} {n m c i : Nat} {a : Option Addr} (h : LRow W n m (.slice a m c)) (hi : i < m) : ∃ b o, a = some ⟨b, o, none⟩ := by
  obtain ⟨a', c', e, h⟩ := h
  injection e with e1 _ _
  subst e1
  rcases h with h | ⟨b, o, cs, T, h1, _⟩
  · omega
  · exact ⟨b, o, h1⟩
theorem wrow_at {W : World} {n sz m c b o : Nat} {a : Option Addr} (h : WRow W n sz m (.slice a m c)) (hm : 0 < m) (ha : a = some ⟨b, o, none⟩) : ∃ cs T, n ≤ b ∧ Own W b cs T ∧ o + m * sz ≤ cs.length := by
  obtain ⟨a', c', e, h⟩ := h
  injection e with e1 _ _
  subst e1
  rcases h with h | ⟨b', o', cs, T, h1, h2⟩
  · omega
  · rw [ha] at h1
    injection h1 with h1
    injection h1 with h3 h4 _
    subst h3; subst h4
    exact ⟨cs, T, h2⟩
theorem lrow_at {W : World} {n m c b o : Nat} {a : Option Addr} (h : LRow W n m (.slice a m c)) (hm : 0 < m) (ha : a = some ⟨b, o, none⟩) : ∃ cs T, n ≤ b ∧ Own W b cs T ∧ o + m * 5 ≤ cs.length ∧ ∀ i, i < m → LeafAt cs (o + i * 5) := by
  obtain ⟨a', c', e, h⟩ := h
  injection e with e1 _ _
  subst e1
  rcases h with h | ⟨b', o', cs, T, h1, h2⟩
  · omega
  · rw [ha] at h1
    injection h1 with h1
    injection h1 with h3 h4 _
    subst h3; subst h4
    exact ⟨cs, T, h2⟩
theorem LRow.w {W : World} {n m : Nat} {v : Value} (h : LRow W n m v) : WRow W n 5 m v := by
  obtain ⟨a, c, e, h⟩ := h
  refine ⟨a, c, e, h.imp id ?_⟩
  rintro ⟨b, o, cs, T, h1, h2, h3, h4, _⟩
  exact ⟨b, o, cs, T, h1, h2, h3, h4⟩
section
variable {P : Program} {ops : Array Oper} {S : Nat → Prop} {w0 : World} {a0 : Act} {Γ : Ctx}
variable {d : Option Tmp} {ty : TypeId} {pos : String} {af : Array Edge} {gd : Option (Nat × Bool)}
theorem sp_indexRowO {x y : Operand} {T E : TypeId} {va : Option Addr} {g0 o0 n cap i sz : Nat} {j : Int} (hx : Has S w0 a0 Γ x (Is (.slice va n cap))) (hy : Has S w0 a0 Γ y (Is (.int .i64 j))) (hT : P.underlying T = some (.slice E)) (hz : szOf P E = some sz) (hva : va = some ⟨g0, o0, none⟩) (hj : j = i) (hi : i < n) :
    Spec P ops S w0 a0 Γ ⟨d, .indexAddr T x y, ty, pos, af, gd⟩ (Is (.pointer (some ⟨g0, o0 + i * sz, none⟩))) := sp_val fun a g W hk hg he => by
  have e1 : a.eval x = .slice va n cap := hx.of_env hk hg he (by simp [Op.operands])
  have e2 : a.eval y = .int .i64 j := hy.of_env hk hg he (by simp [Op.operands])
  subst hj; subst hva
  have hi2 : (0 : Int) ≤ (i : Int) ∧ (i : Int) < (n : Int) := by omega
  simp [execOp, e1, e2, Instr.indexAt, asIntOf, run_und hT, run_szOf hz, hi, add_none]
def NilS (u : Value) : Prop := ∃ a c, u = .slice a 0 c
theorem sp_loadLeafN {x : Operand} {T : TypeId} {va : Option Addr} {n m c g0 o0 i f : Nat} (hx : Has All w0 a0 Γ x (Is (.pointer (some ⟨g0, o0 + i * 5 + f, none⟩)))) (hf : f = 3 ∨ f = 4) (hT : aggB P T = some false) (hz : szOf P T = some 1) (A : LRow w0 n m (.slice va m c)) (hva : va = some ⟨g0, o0, none⟩) (hi : i < m) :
    Spec P ops All w0 a0 Γ ⟨d, .load T x, ty, pos, af, gd⟩ (IsP NilS) := fun a g W hk hg he => by
  have e1 := hx.of_env hk hg he (by simp [Op.operands])
  obtain ⟨cs, T0, -, h2, -, h4⟩ := lrow_at A (by omega) hva
  obtain ⟨k, n1, t, a1, c1, a2, c2, q0, q1, q2, q3, q4⟩ := h4 i hi
  have ho := h2.ext hk
  have key : ∀ u : Value, cs[o0 + i * 5 + f]? = some u → NilS u → OpRuns P ⟨d, .load T x, ty, pos, af, gd⟩ a W fun v W' => Ext W W' ∧ IsP NilS g v W' := fun u hu hn => by
    have hc : CellsAt W g0 (o0 + i * 5 + f) [u] := fun j hj => by
      rw [ho.cell]
      have hj0 : j = 0 := by simp at hj; omega
      subst hj0
      exact hu
    have hr := run_loadVar (P := P) hc hT hz rfl (fun _ => rfl)
    unfold OpRuns
    have : (execOp a.eval ⟨d, .load T x, ty, pos, af, gd⟩).run P W = .ok (.value u) W := by
      simp only [execOp, show a.eval x = _ from e1, Instr.loadAt, Instr.sureAddr, Sem.run_bind, Sem.run_pure, Result.andThen_ok, hr]
      rfl
    rw [this]
    exact ⟨.refl _ _, hn⟩
  rcases hf with rfl | rfl
  · exact key _ q3 ⟨_, _, rfl⟩
  · exact key _ q4 ⟨_, _, rfl⟩
theorem sp_lenNil {x : Operand} {T E : TypeId} (hT : P.underlying T = some (.slice E)) (hx : Has S w0 a0 Γ x (IsP NilS)) :
    Spec P ops S w0 a0 Γ ⟨d, .call ⟨.builtin .len, #[x], #[T]⟩, ty, pos, af, gd⟩ (Is (.int .i64 0)) := sp_val fun a g W hk hg he => by
  obtain ⟨ad, cap, e1⟩ : ∃ ad cap, a.eval x = .slice ad 0 cap := hx.of_env hk hg he (by simp [Op.operands, Call.operands])
  simp [execOp, resolve, invoke, builtin, Builtin.len_, e1, run_und hT, goInt]
end
theorem splice_len {cs vs : List Value} {o : Nat} (h : o + vs.length ≤ cs.length) : (splice cs o vs).length = cs.length := by
  unfold splice
  simp
  omega
theorem splice_out {cs vs : List Value} {o q : Nat} (h : o + vs.length ≤ cs.length) (hq : q < o ∨ o + vs.length ≤ q) : (splice cs o vs)[q]? = cs[q]? := by
  unfold splice
  rcases hq with hq | hq
  · rw [List.append_assoc, List.getElem?_append_left (by simp; omega), List.getElem?_take_of_lt hq]
  · rw [List.getElem?_append_right (by simp; omega), List.getElem?_drop]
    congr 1
    simp
    omega
theorem splice_in {cs vs : List Value} {o j : Nat} (h : o + vs.length ≤ cs.length) (hj : j < vs.length) : (splice cs o vs)[o + j]? = vs[j]? := by
  unfold splice
  rw [List.append_assoc, List.getElem?_append_right (by simp; omega), List.getElem?_append_left (by simp; omega)]
  congr 1
  simp
  omega
section
variable {P : Program} {ops : Array Oper} {Q : Exit → Act → World → Prop} {r : List Oper} {a : Act} {W : World} {T : TypeId} {x y : Operand} {ty : TypeId} {pos : String} {af : Array Edge}
theorem tail_storeW {va : Option Addr} {g0 o0 i n sz m c : Nat} {v : Value} (hx : a.eval x = .pointer (some ⟨g0, o0 + i * sz, none⟩)) (hy : a.eval y = v) (hz : szOf P T = some sz) (hv : v.cells.size = sz) (h1 : ∀ c ∈ v.cells.toList, oneC c = true)
    (A : WRow W n sz m (.slice va m c)) (hva : va = some ⟨g0, o0, none⟩) (hi : i < m) (h : ∀ W', Keeps (fun k => k ≠ g0) W W' → n ≤ g0 → WRow W' n sz m (.slice va m c) → runTail P ops Q r a W') :
    runTail P ops Q (⟨none, .store T x y, ty, pos, af, none⟩ :: r) a W := by
  obtain ⟨cs, T0, h2, h3, h4⟩ := wrow_at A (by omega) hva
  have hfit : i * sz + sz ≤ m * sz := by rw [← Nat.succ_mul]; exact Nat.mul_le_mul_right _ hi
  have hvl : v.cells.toList.length = sz := by simpa using hv
  refine tail_store hx hy hz hv h3 (by omega) h1 fun W' hk ho => h W' hk h2 ?_
  exact ⟨va, c, rfl, .inr ⟨g0, o0, _, T0, hva, h2, ho, by rw [splice_len (by omega)]; exact h4⟩⟩
theorem tail_storeL {va : Option Addr} {g0 o0 i n m c : Nat} {v : Value} (hx : a.eval x = .pointer (some ⟨g0, o0 + i * 5, none⟩)) (hy : a.eval y = v) (hz : szOf P T = some 5) (hv : LeafV v)
    (A : LRow W n m (.slice va m c)) (hva : va = some ⟨g0, o0, none⟩) (hi : i < m) (h : ∀ W', Keeps (fun k => k ≠ g0) W W' → n ≤ g0 → LRow W' n m (.slice va m c) → runTail P ops Q r a W') :
    runTail P ops Q (⟨none, .store T x y, ty, pos, af, none⟩ :: r) a W := by
  obtain ⟨cs, T0, h2, h3, h4, h5⟩ := lrow_at A (by omega) hva
  obtain ⟨k, n1, t, a1, c1, a2, c2, rfl⟩ := hv
  have hfit : o0 + i * 5 + [Value.int .u8 k, .int .i64 n1, .string t, .slice a1 0 c1, .slice a2 0 c2].length ≤ cs.length := by simp; omega
  refine tail_store hx hy hz rfl h3 (by simpa using hfit) (by intro q hq; simp [Value.cells] at hq; rcases hq with rfl | rfl | rfl | rfl | rfl <;> rfl) fun W' hk ho => h W' hk h2 ?_
  have ho' : Own W' g0 (splice cs (o0 + i * 5) [.int .u8 k, .int .i64 n1, .string t, .slice a1 0 c1, .slice a2 0 c2]) T0 := ho
  refine ⟨va, c, rfl, .inr ⟨g0, o0, _, T0, hva, h2, ho', by rw [splice_len hfit]; exact h4, fun j hj => ?_⟩⟩
  by_cases hji : j = i
  · subst hji
    exact ⟨k, n1, t, a1, c1, a2, c2, splice_in (j := 0) hfit (by simp), splice_in (j := 1) hfit (by simp), splice_in (j := 2) hfit (by simp), splice_in (j := 3) hfit (by simp), splice_in (j := 4) hfit (by simp)⟩
  · have hl : [Value.int .u8 k, .int .i64 n1, .string t, .slice a1 0 c1, .slice a2 0 c2].length = 5 := rfl
    have hs : ∀ q, q < 5 → (splice cs (o0 + i * 5) [.int .u8 k, .int .i64 n1, .string t, .slice a1 0 c1, .slice a2 0 c2])[o0 + j * 5 + q]? = cs[o0 + j * 5 + q]? := fun q hq => splice_out hfit (by rw [hl]; omega)
    obtain ⟨k', n', t', a', c', a2', c2', q0, q1, q2, q3, q4⟩ := h5 j hj
    exact ⟨k', n', t', a', c', a2', c2', (hs 0 (by omega)).trans q0, (hs 1 (by omega)).trans q1, (hs 2 (by omega)).trans q2, (hs 3 (by omega)).trans q3, (hs 4 (by omega)).trans q4⟩
end
theorem wrow_of {W : World} {n sz : Nat} {S : BSet} {ds : List D} {v : Value} (h : Rd W S (.lst sz ds) v) (hS : ∀ b o, S b o → n ≤ b ∧ Cln o) (hw : ∀ d ∈ ds, width d = sz) (hsz : 0 < sz) : WRow W n sz ds.length v := by
  obtain ⟨cs, hr, rfl⟩ := h
  simp only [RdC] at hr
  obtain ⟨a, cap, rfl, -, -, h4⟩ := hr
  refine ⟨a, cap, rfl, ?_⟩
  rcases h4 with h4 | ⟨b, o, rfl, hb, hlt, hl⟩
  · left; rw [h4]; rfl
  · by_cases h0 : ds.length = 0
    · exact .inl h0
    · right
      obtain ⟨hn, c, T, hc⟩ := hS b _ hb
      refine ⟨b, o, c.toList, T, rfl, hn, by unfold Own; simpa using hc, ?_⟩
      obtain ⟨cs, h1, h2, h3⟩ := hl.get (ds.length - 1) (by omega)
      have hq := h2 (sz - 1) (by omega)
      unfold World.cell? at hq
      rw [hc] at hq
      simp at hq
      obtain ⟨hq, -⟩ := Array.getElem?_eq_some_iff.1 hq
      have : ds.length * sz = (ds.length - 1) * sz + sz := by rw [← Nat.succ_mul]; congr 1; omega
      simp
      omega
theorem leaf_cells {W : World} {S : BSet} {x : V} {cs : List Value} (h : RdC W S (V.d x) cs) (hn : x.ns = []) (hx : x.xs = []) : ∃ k n t a c a2 c2, cs = [.int .u8 k, .int .i64 n, .string t, .slice a 0 c, .slice a2 0 c2] := by
  obtain ⟨k, n, t, ns, xs⟩ := x
  simp only [V.ns, V.xs] at hn hx
  subst hn; subst hx
  obtain ⟨a1, c1, a2, c2, ev, -, -, -⟩ := rdV_out (v := .agg cs.toArray) ⟨cs, h, rfl⟩
  injection ev with ev
  have := congrArg Array.toList ev
  exact ⟨k, n, t, a1, c1, a2, c2, this⟩
theorem lrow_of {W : World} {n : Nat} {S : BSet} {xs : List V} {v : Value} (h : Rd W S (valsD xs) v) (hS : ∀ b o, S b o → n ≤ b ∧ Cln o) (hx : ∀ x ∈ xs, x.ns = [] ∧ x.xs = []) : LRow W n xs.length v := by
  have hw := wrow_of (ds := xs.map V.d) h hS (fun d hd => by obtain ⟨x, -, rfl⟩ := List.mem_map.1 hd; exact width_V x) (by decide)
  obtain ⟨a', c', e', hw⟩ := hw
  obtain ⟨cs, hr, e⟩ := h
  simp only [valsD, RdC] at hr
  obtain ⟨a, cap, rfl, -, -, h4⟩ := hr
  have e2 : v = .slice a xs.length cap := by rw [e]; simp [valsD, asm]
  refine ⟨a, cap, e2, ?_⟩
  rw [e2] at e'
  injection e' with e1 _ _
  subst e1
  rcases h4 with h4 | ⟨b, o, rfl, hb, hlt, hl⟩
  · left; simpa using h4
  · rcases hw with h0 | ⟨b', o', cs', T, h1, h2, h3, h5⟩
    · left; simpa using h0
    · right
      injection h1 with h1
      injection h1 with h6 h7 _
      subst h6; subst h7
      refine ⟨b, o, cs', T, rfl, h2, h3, by simpa using h5, fun i hi => ?_⟩
      obtain ⟨cs, h8, h9, h10⟩ := hl.get i (by simpa using hi)
      have hxx := hx xs[i] (List.getElem_mem hi)
      simp only [List.getElem_map] at h10
      obtain ⟨k, n1, t, a1, c1, a2, c2, rfl⟩ := leaf_cells h10 hxx.1 hxx.2
      have hq : ∀ j (hj : j < 5), cs'[o + i * 5 + j]? = some ([Value.int .u8 k, .int .i64 n1, .string t, .slice a1 0 c1, .slice a2 0 c2][j]'hj) := fun j hj => by rw [← h3.cell]; exact h9 j hj
      exact ⟨k, n1, t, a1, c1, a2, c2, hq 0 (by decide), hq 1 (by decide), hq 2 (by decide), hq 3 (by decide), hq 4 (by decide)⟩
theorem keeps_below {S0 : Nat → Prop} {w W W' : World} {n : Nat} (h : Keeps S0 w W) (k : Keeps (fun x => x < n) W W') (hn : w.heap.size ≤ n) : Keeps S0 w W' :=
  ⟨k.os.trans h.os, k.tape.trans h.tape, k.output.trans h.output, Nat.le_trans h.size k.size, fun i hi hs => by
    rw [k.block i (Nat.lt_of_lt_of_le hi h.size) (Nat.lt_of_lt_of_le hi hn)]; exact h.block i hi hs⟩
end Go.Eng
namespace Go.Proofs.Ytnobijngkpflcaa
open Go.Eng
set_option maxRecDepth 100000 in
theorem GetR_ok (x : V) (m : ByteArray) (w : World) (S : BSet) (v : Value) (hv : Rd w S x.d v) : Calls Try.prog 140 #[v, .string m] w (Ret w fun r W => ∃ r1, r = .tuple #[r1, .bool (grB x m)] ∧ Rd W (Ar w S) (V.d (grV x m)) r1) := by
 have hln : x.ns.length ≤ maxLen := by obtain ⟨_, _, _, _, _, _, h, _⟩ := rdV_out hv; exact rd_lenS h
 simp only [maxLen] at hln
 obtain ⟨cn0a, cn0c, ci0a, ci0c, ev, ht0, D_cn0, D_ci0⟩ := rdV_out (rd_arg hv)
 subst ev
 refine enter Try.func140 rfl Try.ntmps140 (lbr rfl) fun a0 y0 zz0 harg => ?_
 have e0 : sl a0 0 = (.agg #[(.int .u8 (x.k)), (.int .i64 (x.n)), (.string (x.t)), (.slice cn0a (x.ns.length) cn0c), (.slice ci0a (x.xs.length) ci0c)]) := harg 0 (lbr rfl)
 have e1 : sl a0 1 = (.string (m)) := harg 1 (lbr rfl)
 have kw := Keeps.refl All w
 clear harg
 refine zq fun K1 hK1 => ?_
 refine rg mixed y0 zz0 ?_
 refine .boxOp (v := (.agg #[(.int .u8 (x.k)), (.int .i64 (x.n)), (.string (x.t)), (.slice cn0a (x.ns.length) cn0c), (.slice ci0a (x.xs.length) ci0c)])) (hbs rfl e0) ?_
 refine .alloc z33 ?_
 refine .ac ?_
 refine .dn fun a2 g W2 y2 zz2 hk hg hV hR hP => ?_
 obtain ⟨-, ⟨b4_2, e4, hb4, own_b4_2⟩, ⟨b2_2, e2, hb2, own_b2_2⟩, -⟩ := hV
 have lo_b4_2 : w.heap.size ≤ b4_2 := Nat.le_trans kw.size (hg.lo _ _ hb4)
 have own_b4_2 : Own W2 b4_2 [(.int .u8 (0)), (.int .i64 (0)), (.string (⟨#[]⟩)), (.slice none 0 0), (.slice none 0 0)] 33 := own_b4_2
 have lo_b2_2 : w.heap.size ≤ b2_2 := Nat.le_trans kw.size (hg.lo _ _ hb2)
 have own_b2_2 : Own W2 b2_2 [(.int .u8 (x.k)), (.int .i64 (x.n)), (.string (x.t)), (.slice cn0a (x.ns.length) cn0c), (.slice ci0a (x.xs.length) ci0c)] 33 := own_b2_2
 have ne_b4_2_b2_2 : b4_2 ≠ b2_2 := fun h => by have := hg.inj _ _ _ hb4 (h ▸ hb2); cases this
 replace e1 := ft hR e1
 replace D_cn0 := sa_more D_cn0 hk [b4_2, b2_2] (in_cons (hg.lo _ _ hb4) (in_cons (hg.lo _ _ hb2) in_nil))
 replace D_ci0 := sa_more D_ci0 hk [b4_2, b2_2] (in_cons (hg.lo _ _ hb4) (in_cons (hg.lo _ _ hb2) in_nil))
 replace kw := kw.x hk
 clear hR hk hg hP hb4 hb2
 refine zn (hK1 _ _ ?_)
 refine zq fun K3 hK3 => ?_
 refine zq fun K4 hK4 => ?_
 refine rg mixed y2 zz2 ?_
 refine .i (fo 0 (hbs rfl e2) Try.underlying33 rfl sz5 rfl) ?_
 refine .i (lo1 (hlc rfl) own_b2_2 trivial agg5 sz5 rfl) ?_
 refine .i (sp_neq (hlc rfl) Has.cst) ?_
 refine .dn fun a5 g W5 y5 zz5 hk hg hV hR hP => ?_
 obtain ⟨e9, -, -, -⟩ := hV
 replace e1 := ft hR e1
 replace e4 := ft hR e4
 replace e2 := ft hR e2
 replace D_cn0 := D_cn0.ext hk
 replace D_ci0 := D_ci0.ext hk
 replace e9 := e9.q
 replace own_b4_2 := own_b4_2.ext hk
 replace own_b2_2 := own_b2_2.ext hk
 replace kw := kw.x hk
 clear hR hk hg hP
 refine zn (hK4 _ _ ?_)
 refine zc e9 (fun hc => ?_) (fun hc => ?_)
 ·
  have hfr : grR x m = none := by rw [grR, if_neg]; simp at hc; omega
  have hfb : grB x m = false := by rw [grB, hfr]; rfl
  have hfv : grV x m = V.zero := by rw [grV, hfr]; rfl
  refine zq fun K6 hK6 => ?_
  refine rg mixed y5 zz5 ?_
  refine .i (v := (.agg #[(.int .u8 (0)), (.int .i64 (0)), (.string (⟨#[]⟩)), (.slice none 0 0), (.slice none 0 0)])) (sp_build (vs := []) Try.underlying33 z33 (pl33 Try.underlying33) trivial rfl) ?_
  refine .dn fun a7 g W7 y7 zz7 hk hg hV hR hP => ?_
  obtain ⟨e10, -⟩ := hV
  replace e4 := ft hR e4
  replace D_cn0 := D_cn0.ext hk
  replace D_ci0 := D_ci0.ext hk
  replace e10 := e10.q
  replace own_b4_2 := own_b4_2.ext hk
  replace own_b2_2 := own_b2_2.ext hk
  replace kw := kw.x hk
  clear hR hk hg hP
  refine tail_store e4 e10 sz33 rfl own_b4_2 (lbr rfl) (all_cons rfl (all_cons rfl (all_cons rfl (all_cons rfl (all_cons rfl all_nil))))) (fun W8 hs own_b4_2 => ?_)
  have own_b4_2 : Own W8 b4_2 [(.int .u8 (0)), (.int .i64 (0)), (.string (⟨#[]⟩)), (.slice none 0 0), (.slice none 0 0)] 33 := own_b4_2
  replace own_b2_2 := own_store own_b2_2 hs ne_b4_2_b2_2.symm
  replace D_cn0 := sa_store D_cn0 hs (by simp)
  replace D_ci0 := sa_store D_ci0 hs (by simp)
  replace kw := keeps_store kw hs lo_b4_2
  clear hs
  refine tail_assign (v := (.bool (false))) rfl (by rw [y7]; exact Nat.le_of_ble_eq_true rfl) (fun a9 y9 zz9 e5 hr => ?_)
  replace y9 := y9.trans y7; replace zz9 := zz9.trans zz7
  replace e4 := (hr 4 (by decide)).trans e4
  replace e10 := (hr 10 (by decide)).trans e10
  clear hr
  refine zn (hK6 _ _ ?_)
  refine wp_ret ?_
  refine retCT (v := (.agg #[(.int .u8 (0)), (.int .i64 (0)), (.string (⟨#[]⟩)), (.slice none 0 0), (.slice none 0 0)])) rfl zz9 e4 own_b4_2 agg33 sz33 rfl (fun h => by cases h) rfl e5 ⟨_, rfl, kw, ?_⟩
  refine ⟨_, by rw [hfb], ?_⟩
  rw [hfv]
  exact sa_ar (rdV_mk (lbr rfl) (rd_nil _) (rd_nil _) : Rd W8 (SA w S [b4_2, b2_2]) (V.d (V.mk (0) (0) (⟨#[]⟩) ([]) ([]))) _)
 have hk5 : x.k = 5 := by simp at hc; omega
 have hg0 : grR x m = grO x.ns x.xs m := by rw [grR, if_pos hk5]
 refine wp_skip (hK3 _ _ ?_)
 refine zq fun K10 hK10 => ?_
 refine zq fun K11 hK11 => ?_
 refine rg mixed y5 zz5 ?_
 refine .ac ?_
 refine .dn fun a12 g W12 y12 zz12 hk hg hV hR hP => ?_
 obtain ⟨e6, -⟩ := hV
 replace e1 := ft hR e1
 replace e4 := ft hR e4
 replace e2 := ft hR e2
 replace D_cn0 := D_cn0.ext hk
 replace D_ci0 := D_ci0.ext hk
 replace e6 := e6.q
 replace own_b4_2 := own_b4_2.ext hk
 replace own_b2_2 := own_b2_2.ext hk
 replace kw := kw.x hk
 clear hR hk hg hP
 refine zn (hK11 _ _ ?_)
 refine wp_block ?_
 refine wp_for (x.ns.length) (fun k a W => a.tmps.size = 37 ∧ a.defers = [] ∧ Keeps All w W ∧ sl a 1 = (.string (m)) ∧ sl a 2 = (.pointer (some ⟨b2_2, 0, none⟩)) ∧ sl a 4 = (.pointer (some ⟨b4_2, 0, none⟩)) ∧ sl a 6 = (.int .i64 ((k : Nat))) ∧ Own W b4_2 [(.int .u8 (0)), (.int .i64 (0)), (.string (⟨#[]⟩)), (.slice none 0 0), (.slice none 0 0)] 33 ∧ Own W b2_2 [(.int .u8 (x.k)), (.int .i64 (x.n)), (.string (x.t)), (.slice cn0a (x.ns.length) cn0c), (.slice ci0a (x.xs.length) ci0c)] 33 ∧ Rd W (SA w S [b4_2, b2_2]) (strsD (x.ns)) (.slice cn0a (x.ns.length) cn0c) ∧ Rd W (SA w S [b4_2, b2_2]) (valsD (x.xs)) (.slice ci0a (x.xs.length) ci0c) ∧ (grO x.ns x.xs m = grO (x.ns.drop k) (x.xs.drop k) m)) ⟨y12, zz12, kw, e1, e2, e4, (e6.trans (congrArg (Value.int .i64) (rfl))), own_b4_2, own_b2_2, D_cn0, D_ci0, rfl⟩ ?_
 clear kw e1 e2 e4 e6 own_b4_2 own_b2_2 D_cn0 D_ci0
 rintro k a13 W13 hkk ⟨y13, zz13, kw, e1, e2, e4, e6, own_b4_2, own_b2_2, D_cn0, D_ci0, hin⟩
 refine zq fun K14 hK14 => ?_
 refine zq fun K15 hK15 => ?_
 refine rg mixed y13 zz13 ?_
 refine .mb rfl e6 ?_
 refine .i (fo 3 (hbs rfl e2) Try.underlying33 rfl sz23 rfl) ?_
 refine .i (lo1 (hlc rfl) own_b2_2 trivial agg23 sz23 rfl) ?_
 refine .i (sp_lenSs Try.underlying23 ((hlc rfl).dat D_cn0 sub_all)) ?_
 refine .i (sp_lss (hlc rfl) (hlc rfl)) ?_
 refine .dn fun a16 g W16 y16 zz16 hk hg hV hR hP => ?_
 obtain ⟨e15, -, -, -, -, -⟩ := hV
 replace e1 := ft hR e1
 replace e4 := ft hR e4
 replace e2 := ft hR e2
 replace e6 := ft hR e6
 replace D_cn0 := D_cn0.ext hk
 replace D_ci0 := D_ci0.ext hk
 replace e15 := e15.q
 replace own_b4_2 := own_b4_2.ext hk
 replace own_b2_2 := own_b2_2.ext hk
 replace kw := kw.x hk
 clear hR hk hg hP
 refine zn (hK15 _ _ ?_)
 refine zc e15 (fun hc => ?_) (fun hc => ?_)
 ·
  have hlt : k < x.ns.length := by simpa using hc
  refine wp_skip (hK14 _ _ ?_)
  refine zq fun K17 hK17 => ?_
  refine wp_block ?_
  refine zq fun K18 hK18 => ?_
  refine rg mixed y16 zz16 ?_
  refine .i (fo 3 (hbs rfl e2) Try.underlying33 rfl sz23 rfl) ?_
  refine .i (lo1 (hlc rfl) own_b2_2 trivial agg23 sz23 rfl) ?_
  refine .mb rfl e6 ?_
  refine .rf (sp_indexS (i := k) ((hlc rfl).dat D_cn0 sub_all) (hlc rfl) Try.underlying23 sz9 rfl hlt) ?_
  refine .i (sp_loadStr (hlc rfl) agg9 sz9) ?_
  refine .mb rfl e1 ?_
  refine .i (sp_sEql (hlc rfl) (hlc rfl)) ?_
  refine .dn fun a19 g W19 y19 zz19 hk hg hV hR hP => ?_
  obtain ⟨e24, -, -, -, -, -, -, -⟩ := hV
  replace e1 := ft hR e1
  replace e4 := ft hR e4
  replace e2 := ft hR e2
  replace e6 := ft hR e6
  replace D_cn0 := D_cn0.ext hk
  replace D_ci0 := D_ci0.ext hk
  replace e24 := e24.q
  replace own_b4_2 := own_b4_2.ext hk
  replace own_b2_2 := own_b2_2.ext hk
  replace kw := kw.x hk
  clear hR hk hg hP
  refine zn (hK18 _ _ ?_)
  refine zc e24 (fun hc => ?_) (fun hc => ?_)
  ·
   have heq : x.ns[k]'hlt = m := by simpa using hc
   have hhit := hg0.trans (hin.trans (gr_hit hlt heq))
   refine zq fun K20 hK20 => ?_
   refine zq fun K21 hK21 => ?_
   refine rg mixed y19 zz19 ?_
   refine .mb rfl e6 ?_
   refine .i (fo 4 (hbs rfl e2) Try.underlying33 rfl sz31 rfl) ?_
   refine .i (lo1 (hlc rfl) own_b2_2 trivial agg31 sz31 rfl) ?_
   refine .i (sp_lenVs Try.underlying31 ((hlc rfl).dat D_ci0 sub_all)) ?_
   refine .i (sp_lss (hlc rfl) (hlc rfl)) ?_
   refine .dn fun a22 g W22 y22 zz22 hk hg hV hR hP => ?_
   obtain ⟨e29, -, -, -, -, -⟩ := hV
   replace e4 := ft hR e4
   replace e2 := ft hR e2
   replace e6 := ft hR e6
   replace D_cn0 := D_cn0.ext hk
   replace D_ci0 := D_ci0.ext hk
   replace e29 := e29.q
   replace own_b4_2 := own_b4_2.ext hk
   replace own_b2_2 := own_b2_2.ext hk
   replace kw := kw.x hk
   clear hR hk hg hP
   refine zn (hK21 _ _ ?_)
   refine zc e29 (fun hc => ?_) (fun hc => ?_)
   ·
    have hlx : k < x.xs.length := by have := of_decide_eq_true hc; omega
    have hfr : grR x m = some x.xs[k] := by rw [hhit, List.getElem?_eq_getElem hlx]
    have hfb : grB x m = true := by rw [grB, hfr]; rfl
    have hfv : grV x m = x.xs[k] := by rw [grV, hfr]; rfl
    refine zq fun K23 hK23 => ?_
    refine rg mixed y22 zz22 ?_
    refine .i (fo 4 (hbs rfl e2) Try.underlying33 rfl sz31 rfl) ?_
    refine .i (lo1 (hlc rfl) own_b2_2 trivial agg31 sz31 rfl) ?_
    refine .mb rfl e6 ?_
    refine .rf (sp_indexV (i := k) ((hlc rfl).dat D_ci0 sub_all) (hlc rfl) Try.underlying31 sz33 rfl hlx) ?_
    refine .da (sp_loadV (hlc rfl) agg33 sz33) ?_
    refine .dn fun a24 g W24 y24 zz24 hk hg hV hR hP => ?_
    obtain ⟨e34, -, -, -, -, -⟩ := hV
    replace e4 := ft hR e4
    replace D_cn0 := D_cn0.ext hk
    replace D_ci0 := D_ci0.ext hk
    obtain ⟨v34_24, ev⟩ : ∃ v, sl a24 34 = v := ⟨_, rfl⟩
    rw [ev] at e34
    have D_v34_24 : Rd W24 (SA w S [b4_2, b2_2]) (V.d (x.xs[k]'hlx)) v34_24 := sa_end e34 hk [] in_nil
    replace e34 := ev; clear ev
    obtain ⟨cn34_24a, cn34_24c, ci34_24a, ci34_24c, ev, ht_v34_24, D_cn34_24, D_ci34_24⟩ := rdV_out D_v34_24
    subst ev; clear D_v34_24
    replace own_b4_2 := own_b4_2.ext hk
    replace own_b2_2 := own_b2_2.ext hk
    replace kw := kw.x hk
    clear hR hk hg hP
    refine tail_store e4 e34 sz33 rfl own_b4_2 (lbr rfl) (all_cons rfl (all_cons rfl (all_cons rfl (all_cons rfl (all_cons rfl all_nil))))) (fun W25 hs own_b4_2 => ?_)
    have own_b4_2 : Own W25 b4_2 [(.int .u8 ((x.xs[k]'hlx).k)), (.int .i64 ((x.xs[k]'hlx).n)), (.string ((x.xs[k]'hlx).t)), (.slice cn34_24a (((x.xs[k]'hlx).ns).length) cn34_24c), (.slice ci34_24a (((x.xs[k]'hlx).xs).length) ci34_24c)] 33 := own_b4_2
    replace own_b2_2 := own_store own_b2_2 hs ne_b4_2_b2_2.symm
    replace D_cn0 := sa_store D_cn0 hs (by simp)
    replace D_ci0 := sa_store D_ci0 hs (by simp)
    replace D_cn34_24 := sa_store D_cn34_24 hs (by simp)
    replace D_ci34_24 := sa_store D_ci34_24 hs (by simp)
    replace kw := keeps_store kw hs lo_b4_2
    clear hs
    refine tail_assign (v := (.bool (true))) rfl (by rw [y24]; exact Nat.le_of_ble_eq_true rfl) (fun a26 y26 zz26 e5 hr => ?_)
    replace y26 := y26.trans y24; replace zz26 := zz26.trans zz24
    replace e4 := (hr 4 (by decide)).trans e4
    replace e34 := (hr 34 (by decide)).trans e34
    clear hr
    refine zn (hK23 _ _ ?_)
    refine wp_ret ?_
    refine retCT (v := (.agg #[(.int .u8 ((x.xs[k]'hlx).k)), (.int .i64 ((x.xs[k]'hlx).n)), (.string ((x.xs[k]'hlx).t)), (.slice cn34_24a (((x.xs[k]'hlx).ns).length) cn34_24c), (.slice ci34_24a (((x.xs[k]'hlx).xs).length) ci34_24c)])) rfl zz26 e4 own_b4_2 agg33 sz33 rfl (fun h => by cases h) rfl e5 ⟨_, rfl, kw, ?_⟩
    refine ⟨_, by rw [hfb], ?_⟩
    rw [hfv]
    exact sa_ar (rdV_in (x := (x.xs[k]'hlx)) ht_v34_24 D_cn34_24 D_ci34_24 : Rd W25 (SA w S [b4_2, b2_2]) (V.d ((x.xs[k]'hlx))) _)
   have hfr : grR x m = none := by rw [hhit, List.getElem?_eq_none (by have := of_decide_eq_false hc; omega)]
   have hfb : grB x m = false := by rw [grB, hfr]; rfl
   have hfv : grV x m = V.zero := by rw [grV, hfr]; rfl
   refine wp_skip (hK20 _ _ ?_)
   refine zq fun K27 hK27 => ?_
   refine rg mixed y22 zz22 ?_
   refine .i (v := (.agg #[(.int .u8 (0)), (.int .i64 (0)), (.string (⟨#[]⟩)), (.slice none 0 0), (.slice none 0 0)])) (sp_build (vs := []) Try.underlying33 z33 (pl33 Try.underlying33) trivial rfl) ?_
   refine .dn fun a28 g W28 y28 zz28 hk hg hV hR hP => ?_
   obtain ⟨e35, -⟩ := hV
   replace e4 := ft hR e4
   replace D_cn0 := D_cn0.ext hk
   replace D_ci0 := D_ci0.ext hk
   replace e35 := e35.q
   replace own_b4_2 := own_b4_2.ext hk
   replace own_b2_2 := own_b2_2.ext hk
   replace kw := kw.x hk
   clear hR hk hg hP
   refine tail_store e4 e35 sz33 rfl own_b4_2 (lbr rfl) (all_cons rfl (all_cons rfl (all_cons rfl (all_cons rfl (all_cons rfl all_nil))))) (fun W29 hs own_b4_2 => ?_)
   have own_b4_2 : Own W29 b4_2 [(.int .u8 (0)), (.int .i64 (0)), (.string (⟨#[]⟩)), (.slice none 0 0), (.slice none 0 0)] 33 := own_b4_2
   replace own_b2_2 := own_store own_b2_2 hs ne_b4_2_b2_2.symm
   replace D_cn0 := sa_store D_cn0 hs (by simp)
   replace D_ci0 := sa_store D_ci0 hs (by simp)
   replace kw := keeps_store kw hs lo_b4_2
   clear hs
   refine tail_assign (v := (.bool (false))) rfl (by rw [y28]; exact Nat.le_of_ble_eq_true rfl) (fun a30 y30 zz30 e5 hr => ?_)
   replace y30 := y30.trans y28; replace zz30 := zz30.trans zz28
   replace e4 := (hr 4 (by decide)).trans e4
   replace e35 := (hr 35 (by decide)).trans e35
   clear hr
   refine zn (hK27 _ _ ?_)
   refine wp_ret ?_
   refine retCT (v := (.agg #[(.int .u8 (0)), (.int .i64 (0)), (.string (⟨#[]⟩)), (.slice none 0 0), (.slice none 0 0)])) rfl zz30 e4 own_b4_2 agg33 sz33 rfl (fun h => by cases h) rfl e5 ⟨_, rfl, kw, ?_⟩
   refine ⟨_, by rw [hfb], ?_⟩
   rw [hfv]
   exact sa_ar (rdV_mk (lbr rfl) (rd_nil _) (rd_nil _) : Rd W29 (SA w S [b4_2, b2_2]) (V.d (V.mk (0) (0) (⟨#[]⟩) ([]) ([]))) _)
  have hne : x.ns[k]'hlt ≠ m := by simpa using hc
  refine wp_skip (hK17 _ _ ?_)
  refine rg mixed y19 zz19 ?_
  refine .mb rfl e6 ?_
  refine .i (sp_add (hlc rfl) Has.cst (i64_in (by omega))) ?_
  refine .al rfl ?_
  refine .dn fun a31 g W31 y31 zz31 hk hg hV hR hP => ?_
  obtain ⟨e6, -, -, -⟩ := hV
  replace e1 := ft hR e1
  replace e4 := ft hR e4
  replace e2 := ft hR e2
  replace D_cn0 := D_cn0.ext hk
  replace D_ci0 := D_ci0.ext hk
  replace e6 := e6.q
  replace own_b4_2 := own_b4_2.ext hk
  replace own_b2_2 := own_b2_2.ext hk
  replace kw := kw.x hk
  clear hR hk hg hP
  exact tail_nil ⟨hlt, y31, zz31, kw, e1, e2, e4, (e6.trans (congrArg (Value.int .i64) (by simp))), own_b4_2, own_b2_2, D_cn0, D_ci0, hin.trans (gr_miss hlt hne)⟩
 have hge0 : ¬ k < x.ns.length := by simpa using hc
 have hge : k = x.ns.length := by omega
 have hfr : grR x m = none := by rw [hg0, hin, hge, List.drop_length]; rfl
 have hfb : grB x m = false := by rw [grB, hfr]; rfl
 have hfv : grV x m = V.zero := by rw [grV, hfr]; rfl
 refine wp_exit (hK10 _ _ ?_)
 refine zq fun K32 hK32 => ?_
 refine rg mixed y16 zz16 ?_
 refine .i (v := (.agg #[(.int .u8 (0)), (.int .i64 (0)), (.string (⟨#[]⟩)), (.slice none 0 0), (.slice none 0 0)])) (sp_build (vs := []) Try.underlying33 z33 (pl33 Try.underlying33) trivial rfl) ?_
 refine .dn fun a33 g W33 y33 zz33 hk hg hV hR hP => ?_
 obtain ⟨e36, -⟩ := hV
 replace e4 := ft hR e4
 replace D_cn0 := D_cn0.ext hk
 replace D_ci0 := D_ci0.ext hk
 replace e36 := e36.q
 replace own_b4_2 := own_b4_2.ext hk
 replace own_b2_2 := own_b2_2.ext hk
 replace kw := kw.x hk
 clear hR hk hg hP
 refine tail_store e4 e36 sz33 rfl own_b4_2 (lbr rfl) (all_cons rfl (all_cons rfl (all_cons rfl (all_cons rfl (all_cons rfl all_nil))))) (fun W34 hs own_b4_2 => ?_)
 have own_b4_2 : Own W34 b4_2 [(.int .u8 (0)), (.int .i64 (0)), (.string (⟨#[]⟩)), (.slice none 0 0), (.slice none 0 0)] 33 := own_b4_2
 replace own_b2_2 := own_store own_b2_2 hs ne_b4_2_b2_2.symm
 replace D_cn0 := sa_store D_cn0 hs (by simp)
 replace D_ci0 := sa_store D_ci0 hs (by simp)
 replace kw := keeps_store kw hs lo_b4_2
 clear hs
 refine tail_assign (v := (.bool (false))) rfl (by rw [y33]; exact Nat.le_of_ble_eq_true rfl) (fun a35 y35 zz35 e5 hr => ?_)
 replace y35 := y35.trans y33; replace zz35 := zz35.trans zz33
 replace e4 := (hr 4 (by decide)).trans e4
 replace e36 := (hr 36 (by decide)).trans e36
 clear hr
 refine zn (hK32 _ _ ?_)
 refine wp_ret ?_
 refine retCT (v := (.agg #[(.int .u8 (0)), (.int .i64 (0)), (.string (⟨#[]⟩)), (.slice none 0 0), (.slice none 0 0)])) rfl zz35 e4 own_b4_2 agg33 sz33 rfl (fun h => by cases h) rfl e5 ⟨_, rfl, kw, ?_⟩
 refine ⟨_, by rw [hfb], ?_⟩
 rw [hfv]
 exact sa_ar (rdV_mk (lbr rfl) (rd_nil _) (rd_nil _) : Rd W34 (SA w S [b4_2, b2_2]) (V.d (V.mk (0) (0) (⟨#[]⟩) ([]) ([]))) _)
set_option maxRecDepth 100000 in
theorem rTake_ok (m : ByteArray) (hm : m.size ≤ maxLen) (kd : Nat) (x : V) (hxt : x.t.size ≤ maxLen) (w : World) (S : BSet) (cn ci : Value) (bx : Nat) (hM : ∀ b ∈ [bx], ∀ o, ¬ S b o) (hv : Rd w S (strsD x.ns) cn) (hu : Rd w S (valsD x.xs) ci) (own_bx : Own w bx [.int .u8 x.k, .int .i64 x.n, .string x.t, cn, ci, .slice none 0 0, .int .i64 0] 56) : Calls Try.prog 141 #[.pointer (some ⟨bx, 0, none⟩), .string m, .int .u8 kd] w (RetL w [bx] fun u W => ∃ r1 av, u = .tuple #[r1, .bool (rtB x m kd)] ∧ Rd W (Ar w S) (V.d (rtV x m kd)) r1 ∧ Own W bx [.int .u8 x.k, .int .i64 x.n, .string x.t, cn, ci, av, .int .i64 (rtE x m kd)] 56) := by
 obtain ⟨cna, cnc, ev, D_cn⟩ := rdS_out (rd_argM (M := [bx]) hv hM)
 subst ev
 obtain ⟨cia, cic, ev, D_ci⟩ := rdVs_out (rd_argM (M := [bx]) hu hM)
 subst ev
 refine enter Try.func141 rfl Try.ntmps141 (lbr rfl) fun a0 y0 zz0 harg => ?_
 have e0 : sl a0 0 = (.pointer (some ⟨bx, 0, none⟩)) := harg 0 (lbr rfl)
 have e1 : sl a0 1 = (.string (m)) := harg 1 (lbr rfl)
 have e2 : sl a0 2 = (.int .u8 ((kd : Nat))) := harg 2 (lbr rfl)
 have kw := Keeps.refl (fun k => k ∉ [bx]) w
 clear harg
 refine zq fun K1 hK1 => ?_
 refine rg mixed y0 zz0 ?_
 refine .alloc z33 ?_
 refine .ac ?_
 refine .dn fun a2 g W2 y2 zz2 hk hg hV hR hP => ?_
 obtain ⟨-, ⟨b6_2, e6, hb6, own_b6_2⟩, -⟩ := hV
 have lo_b6_2 : w.heap.size ≤ b6_2 := Nat.le_trans kw.size (hg.lo _ _ hb6)
 have ne_bx_b6_2 : bx ≠ b6_2 := Nat.ne_of_lt (Nat.lt_of_lt_of_le own_bx.lt (hg.lo _ _ hb6))
 have own_b6_2 : Own W2 b6_2 [(.int .u8 (0)), (.int .i64 (0)), (.string (⟨#[]⟩)), (.slice none 0 0), (.slice none 0 0)] 33 := own_b6_2
 replace e0 := ft hR e0
 replace e1 := ft hR e1
 replace e2 := ft hR e2
 replace D_cn := sa_more D_cn hk [b6_2] (in_cons (hg.lo _ _ hb6) in_nil)
 replace D_ci := sa_more D_ci hk [b6_2] (in_cons (hg.lo _ _ hb6) in_nil)
 replace own_bx := own_bx.ext hk
 replace kw := kw.x hk
 clear hR hk hg hP hb6
 refine zn (hK1 _ _ ?_)
 refine zq fun K3 hK3 => ?_
 refine zq fun K4 hK4 => ?_
 refine rg mixed y2 zz2 ?_
 refine .mb rfl e0 ?_
 refine .i (sp_nilP (hlc rfl)) ?_
 refine .i (fo 6 (hlc rfl) Try.underlying56 rfl sz28 rfl) ?_
 refine .i (lo1 (hlc rfl) own_bx trivial agg28 sz28 rfl) ?_
 refine .i (sp_neq (hlc rfl) Has.cst) ?_
 refine .dn fun a5 g W5 y5 zz5 hk hg hV hR hP => ?_
 obtain ⟨e14, -, -, -, -, -⟩ := hV
 replace e0 := ft hR e0
 replace e1 := ft hR e1
 replace e2 := ft hR e2
 replace e6 := ft hR e6
 replace D_cn := D_cn.ext hk
 replace D_ci := D_ci.ext hk
 replace e14 := e14.q
 replace own_bx := own_bx.ext hk
 replace own_b6_2 := own_b6_2.ext hk
 replace kw := kw.x hk
 clear hR hk hg hP
 refine zn (hK4 _ _ ?_)
 refine wp_cond_false (e14.trans (congrArg Value.bool (by decide))) ?_
 refine wp_skip (hK3 _ _ ?_)
 refine zq fun K6 hK6 => ?_
 refine rg mixed y5 zz5 ?_
 refine .mb rfl e0 ?_
 refine .i (sp_nilP (hlc rfl)) ?_
 refine .i (fo 0 (hlc rfl) Try.underlying56 rfl sz33 rfl) ?_
 refine .i (v := (.agg #[(.int .u8 (x.k)), (.int .i64 (x.n)), (.string (x.t)), (.slice cna (x.ns.length) cnc), (.slice cia (x.xs.length) cic)])) (loA (hlc rfl) own_bx trivial agg33 sz33 rfl rfl) ?_
 refine .mb rfl e1 ?_
 refine .op (φ := IsT (IsD (SA w S [b6_2, bx]) (V.d (grV x m))) (Is (.bool (grB x m)))) (st_t (st_d sub_all) (st_is _)) (sp_call2 (φ1 := IsD (SA w S [b6_2, bx]) (V.d (x))) (φ2 := Is (.string (m))) ent140 ((hlc rfl).dat (rdV_in (x := x) hxt D_cn D_ci : Rd W5 (SA w S [b6_2, bx]) (V.d (x)) _) sub_all) (hlc rfl) (fun g u1 u2 W hk hgk h1 h2 => by have h2 : u2 = _ := h2; subst u2; exact (GetR_ok (x) (m) W _ _ h1).mono (fun _ _ ⟨v, h1, h2, r1, h3, h4⟩ => ⟨v, h1, h2, r1, _, h3, rd_ar_sa kw (in_cons own_b6_2.lt (in_cons own_bx.lt in_nil)) hk hgk h4, rfl⟩))) ?_
 refine .op (φ := IsT (IsD (SA w S [b6_2, bx]) (V.d (grV x m))) (Is (.bool (grB x m)))) (st_t (st_d sub_all) (st_is _)) (sp_move (hlc rfl)) ?_
 refine .da (X := SA w S [b6_2, bx]) (e := V.d (grV x m)) (sp_ext2 (hlc rfl) rfl) ?_
 refine .i (v := (.bool (grB x m))) (sp_ext2' (hlc rfl) rfl) ?_
 refine .alloc z33 ?_
 refine .dn fun a7 g W7 y7 zz7 hk hg hV hR hP => ?_
 obtain ⟨⟨b8_7, e8, hb8, own_b8_7⟩, e24, e23, -, -, -, -, -, -, -, -⟩ := hV
 have lo_b8_7 : w.heap.size ≤ b8_7 := Nat.le_trans kw.size (hg.lo _ _ hb8)
 have ne_bx_b8_7 : bx ≠ b8_7 := Nat.ne_of_lt (Nat.lt_of_lt_of_le own_bx.lt (hg.lo _ _ hb8))
 have ne_b6_2_b8_7 : b6_2 ≠ b8_7 := Nat.ne_of_lt (Nat.lt_of_lt_of_le own_b6_2.lt (hg.lo _ _ hb8))
 have own_b8_7 : Own W7 b8_7 [(.int .u8 (0)), (.int .i64 (0)), (.string (⟨#[]⟩)), (.slice none 0 0), (.slice none 0 0)] 33 := own_b8_7
 replace e0 := ft hR e0
 replace e1 := ft hR e1
 replace e2 := ft hR e2
 replace e6 := ft hR e6
 replace D_cn := sa_more D_cn hk [b8_7] (in_cons (hg.lo _ _ hb8) in_nil)
 replace D_ci := sa_more D_ci hk [b8_7] (in_cons (hg.lo _ _ hb8) in_nil)
 obtain ⟨v23_7, ev⟩ : ∃ v, sl a7 23 = v := ⟨_, rfl⟩
 rw [ev] at e23
 have D_v23_7 : Rd W7 (SA w S [b8_7, b6_2, bx]) (V.d (grV x m)) v23_7 := sa_end e23 hk [b8_7] (in_cons ⟨_, hb8⟩ in_nil)
 replace e23 := ev; clear ev
 obtain ⟨cn23_7a, cn23_7c, ci23_7a, ci23_7c, ev, ht_v23_7, D_cn23_7, D_ci23_7⟩ := rdV_out D_v23_7
 subst ev; clear D_v23_7
 replace e24 := e24.q
 replace own_bx := own_bx.ext hk
 replace own_b6_2 := own_b6_2.ext hk
 replace kw := kw.x hk
 clear hR hk hg hP hb8
 refine tail_store e8 e23 sz33 rfl own_b8_7 (lbr rfl) (all_cons rfl (all_cons rfl (all_cons rfl (all_cons rfl (all_cons rfl all_nil))))) (fun W8 hs own_b8_7 => ?_)
 have own_b8_7 : Own W8 b8_7 [(.int .u8 ((grV x m).k)), (.int .i64 ((grV x m).n)), (.string ((grV x m).t)), (.slice cn23_7a (((grV x m).ns).length) cn23_7c), (.slice ci23_7a (((grV x m).xs).length) ci23_7c)] 33 := own_b8_7
 replace own_bx := own_store own_bx hs ne_bx_b8_7
 replace own_b6_2 := own_store own_b6_2 hs ne_b6_2_b8_7
 replace D_cn := sa_store D_cn hs (by simp)
 replace D_ci := sa_store D_ci hs (by simp)
 replace D_cn23_7 := sa_store D_cn23_7 hs (by simp)
 replace D_ci23_7 := sa_store D_ci23_7 hs (by simp)
 replace kw := keeps_store kw hs lo_b8_7
 clear hs
 refine tail_assign (v := (.bool (grB x m))) e24 (by rw [y7]; exact Nat.le_of_ble_eq_true rfl) (fun a9 y9 zz9 e9 hr => ?_)
 replace y9 := y9.trans y7; replace zz9 := zz9.trans zz7
 replace e0 := (hr 0 (by decide)).trans e0
 replace e1 := (hr 1 (by decide)).trans e1
 replace e2 := (hr 2 (by decide)).trans e2
 replace e6 := (hr 6 (by decide)).trans e6
 replace e8 := (hr 8 (by decide)).trans e8
 replace e23 := (hr 23 (by decide)).trans e23
 replace e24 := (hr 24 (by decide)).trans e24
 clear hr
 refine zn (hK6 _ _ ?_)
 refine zq fun K10 hK10 => ?_
 have A_ar12 : Arr W8 w.heap.size 9 1 (SA w S (blks none ++ (b8_7 :: (b6_2 :: (bx :: []))))) (List.map D.str ([])) (.slice none 0 0) none := arr_nil _ _ _ _ _
 replace D_cn : Rd W8 (SA w S (blks none ++ (b8_7 :: (b6_2 :: (bx :: []))))) (strsD (x.ns)) (.slice cna (x.ns.length) cnc) := D_cn
 replace D_ci : Rd W8 (SA w S (blks none ++ (b8_7 :: (b6_2 :: (bx :: []))))) (valsD (x.xs)) (.slice cia (x.xs.length) cic) := D_ci
 replace D_cn23_7 : Rd W8 (SA w S (blks none ++ (b8_7 :: (b6_2 :: (bx :: []))))) (strsD ((grV x m).ns)) (.slice cn23_7a (((grV x m).ns).length) cn23_7c) := D_cn23_7
 replace D_ci23_7 : Rd W8 (SA w S (blks none ++ (b8_7 :: (b6_2 :: (bx :: []))))) (valsD ((grV x m).xs)) (.slice ci23_7a (((grV x m).xs).length) ci23_7c) := D_ci23_7
 refine wp_reg (fun k => k ∉ blks none) (Ψ := fun W => Arr W w.heap.size 9 1 (SA w S (blks none ++ (b8_7 :: (b6_2 :: (bx :: []))))) (List.map D.str ([])) (.slice none 0 0) none) mixed y9 zz9 (fun W W' k h => h.ext k) A_ar12 ?_
 refine .mb rfl e0 ?_
 refine .mb rfl e0 ?_
 refine .i (sp_nilP (hlc rfl)) ?_
 refine .i (fo 5 (hlc rfl) Try.underlying56 rfl sz23 rfl) ?_
 refine .i (lo1 (hlc rfl) own_bx nb_none agg23 sz23 rfl) ?_
 refine .mb rfl e1 ?_
 refine .op (φ := IsD (SA w S (blks none ++ (b8_7 :: (b6_2 :: (bx :: []))))) (strsD ([m]))) (st_d (sub_nb (fun b hb => List.mem_append_left _ hb))) (sp_bsl (ds := [D.str (m)]) Try.underlying23 sz9 z9 (lbr rfl) (lbr rfl) ⟨rfl, ((hlc rfl).str hm), trivial⟩ rfl (by simp [width]) (fr_sa kw (in_app A_ar12.lt (in_cons own_b8_7.lt (in_cons own_b6_2.lt (in_cons own_bx.lt in_nil)))))) ?_
 refine .appB (ds := List.map D.str ([])) (es := [D.str (m)]) (X := SA w S (blks none ++ (b8_7 :: (b6_2 :: (bx :: []))))) Try.underlying23 inf9 (lbr rfl) (hlc rfl) (hlc rfl) (sub_nb (fun b hb => List.mem_append_left _ hb)) (by simp [maxLen]) (by simp) kw.size ?_
 refine .i (sp_nilP (hlc rfl)) ?_
 refine .i (fo 5 (hlc rfl) Try.underlying56 rfl sz23 rfl) ?_
 refine .dn fun a11 g W11 y11 zz11 hk hg hV hR hP => ?_
 obtain ⟨e34, -, e32, -, -, -, -, -, -, -, -⟩ := hV
 replace e0 := ft hR e0
 replace e2 := ft hR e2
 replace e6 := ft hR e6
 replace e8 := ft hR e8
 replace e9 := ft hR e9
 obtain ⟨v32_11, ev⟩ : ∃ v, sl a11 32 = v := ⟨_, rfl⟩
 rw [ev] at e32
 obtain ⟨hd32_11, A_32_11, hf32_11⟩ := e32
 have e32 := ev; clear ev
 obtain ⟨v32_11a, v32_11n, v32_11c, ev⟩ := arr_sl A_32_11; subst ev
 replace A_32_11 := arrA_new (M' := (blks hd32_11 ++ (b8_7 :: (b6_2 :: (bx :: []))))) A_32_11 (rep_app (rep_q fun _ h => h) (rep_cons (rep_cons (rep_cons rep_nil))))
 replace A_32_11 : Arr W11 w.heap.size 9 1 (SA w S (blks hd32_11 ++ (b8_7 :: (b6_2 :: (bx :: []))))) (List.map D.str ([m])) (.slice v32_11a v32_11n v32_11c) hd32_11 := by first | exact A_32_11 | (rw [List.map_append]; exact A_32_11)
 have nb_bx_11 : bx ∉ blks hd32_11 := nb_new nb_none own_bx.lt hf32_11
 have nb_b6_2_11 : b6_2 ∉ blks hd32_11 := nb_new nb_none own_b6_2.lt hf32_11
 have nb_b8_7_11 : b8_7 ∉ blks hd32_11 := nb_new nb_none own_b8_7.lt hf32_11
 replace D_cn := sa_app (M' := (blks hd32_11 ++ (b8_7 :: (b6_2 :: (bx :: []))))) D_cn hk (fun b hb => List.mem_append_left _ hb) (rep_app hf32_11 (rep_cons (rep_cons (rep_cons rep_nil))))
 replace D_ci := sa_app (M' := (blks hd32_11 ++ (b8_7 :: (b6_2 :: (bx :: []))))) D_ci hk (fun b hb => List.mem_append_left _ hb) (rep_app hf32_11 (rep_cons (rep_cons (rep_cons rep_nil))))
 replace D_cn23_7 := sa_app (M' := (blks hd32_11 ++ (b8_7 :: (b6_2 :: (bx :: []))))) D_cn23_7 hk (fun b hb => List.mem_append_left _ hb) (rep_app hf32_11 (rep_cons (rep_cons (rep_cons rep_nil))))
 replace D_ci23_7 := sa_app (M' := (blks hd32_11 ++ (b8_7 :: (b6_2 :: (bx :: []))))) D_ci23_7 hk (fun b hb => List.mem_append_left _ hb) (rep_app hf32_11 (rep_cons (rep_cons (rep_cons rep_nil))))
 replace own_bx := own_app own_bx hk nb_none
 replace own_b6_2 := own_app own_b6_2 hk nb_none
 replace own_b8_7 := own_app own_b8_7 hk nb_none
 replace kw := keeps_app kw hk A_ar12.ge
 have e34 : sl a11 34 = (.pointer (some ⟨bx, 5, none⟩)) := e34
 clear hR hk hg hP hf32_11 A_ar12
 refine tail_store e34 e32 sz23 rfl own_bx (lbr rfl) (all_cons rfl all_nil) (fun W13 hs own_bx => ?_)
 have own_bx : Own W13 bx [(.int .u8 (x.k)), (.int .i64 (x.n)), (.string (x.t)), (.slice cna (x.ns.length) cnc), (.slice cia (x.xs.length) cic), (.slice v32_11a v32_11n v32_11c), (.int .i64 (0))] 56 := own_bx
 replace own_b6_2 := own_store own_b6_2 hs ne_bx_b6_2.symm
 replace own_b8_7 := own_store own_b8_7 hs ne_bx_b8_7.symm
 replace D_cn := sa_store D_cn hs (by simp)
 replace D_ci := sa_store D_ci hs (by simp)
 replace D_cn23_7 := sa_store D_cn23_7 hs (by simp)
 replace D_ci23_7 := sa_store D_ci23_7 hs (by simp)
 replace A_32_11 := arrA_store A_32_11 hs (by simp) nb_bx_11
 replace kw := keeps_storeN kw hs (by simp)
 clear hs
 refine zn (hK10 _ _ ?_)
 refine zq fun K14 hK14 => ?_
 refine zq fun K15 hK15 => ?_
 refine rg mixed y11 zz11 ?_
 refine .mb rfl e9 ?_
 refine .i (sp_not (hlc rfl)) ?_
 refine .dn fun a16 g W16 y16 zz16 hk hg hV hR hP => ?_
 obtain ⟨e36, -, -⟩ := hV
 replace e0 := ft hR e0
 replace e2 := ft hR e2
 replace e6 := ft hR e6
 replace e8 := ft hR e8
 replace A_32_11 := A_32_11.ext hk
 replace D_cn := D_cn.ext hk
 replace D_ci := D_ci.ext hk
 replace D_cn23_7 := D_cn23_7.ext hk
 replace D_ci23_7 := D_ci23_7.ext hk
 replace e36 := e36.q
 replace own_bx := own_bx.ext hk
 replace own_b6_2 := own_b6_2.ext hk
 replace own_b8_7 := own_b8_7.ext hk
 replace kw := kw.x hk
 clear hR hk hg hP
 refine zn (hK15 _ _ ?_)
 refine zc e36 (fun hc => ?_) (fun hc => ?_)
 ·
  have hre : rtE x m kd = 6 := by rw [rtE, if_pos]; simpa using hc
  obtain ⟨hfb, hfv⟩ := rt_no hre (by decide)
  refine zq fun K17 hK17 => ?_
  refine rg mixed y16 zz16 ?_
  refine .mb rfl e0 ?_
  refine .i (sp_nilP (hlc rfl)) ?_
  refine .i (fo 6 (hlc rfl) Try.underlying56 rfl sz28 rfl) ?_
  refine .dn fun a18 g W18 y18 zz18 hk hg hV hR hP => ?_
  obtain ⟨e39, -, -, -⟩ := hV
  replace e6 := ft hR e6
  replace A_32_11 := A_32_11.ext hk
  replace D_cn := D_cn.ext hk
  replace D_ci := D_ci.ext hk
  replace D_cn23_7 := D_cn23_7.ext hk
  replace D_ci23_7 := D_ci23_7.ext hk
  have e39 : sl a18 39 = (.pointer (some ⟨bx, 6, none⟩)) := e39
  replace own_bx := own_bx.ext hk
  replace own_b6_2 := own_b6_2.ext hk
  replace own_b8_7 := own_b8_7.ext hk
  replace kw := kw.x hk
  clear hR hk hg hP
  refine tail_store (b := bx) (o := 6) (v := (.int .i64 (6))) e39 rfl sz28 rfl own_bx (lbr rfl) (all_cons rfl all_nil) (fun W19 hs own_bx => ?_)
  have own_bx : Own W19 bx [(.int .u8 (x.k)), (.int .i64 (x.n)), (.string (x.t)), (.slice cna (x.ns.length) cnc), (.slice cia (x.xs.length) cic), (.slice v32_11a v32_11n v32_11c), (.int .i64 (6))] 56 := own_bx
  replace own_b6_2 := own_store own_b6_2 hs ne_bx_b6_2.symm
  replace own_b8_7 := own_store own_b8_7 hs ne_bx_b8_7.symm
  replace D_cn := sa_store D_cn hs (by simp)
  replace D_ci := sa_store D_ci hs (by simp)
  replace D_cn23_7 := sa_store D_cn23_7 hs (by simp)
  replace D_ci23_7 := sa_store D_ci23_7 hs (by simp)
  replace A_32_11 := arrA_store A_32_11 hs (by simp) nb_bx_11
  replace kw := keeps_storeN kw hs (by simp)
  clear hs
  refine zn (hK17 _ _ ?_)
  refine zq fun K20 hK20 => ?_
  refine rg mixed y18 zz18 ?_
  refine .i (v := (.agg #[(.int .u8 (0)), (.int .i64 (0)), (.string (⟨#[]⟩)), (.slice none 0 0), (.slice none 0 0)])) (sp_build (vs := []) Try.underlying33 z33 (pl33 Try.underlying33) trivial rfl) ?_
  refine .dn fun a21 g W21 y21 zz21 hk hg hV hR hP => ?_
  obtain ⟨e40, -⟩ := hV
  replace e6 := ft hR e6
  replace A_32_11 := A_32_11.ext hk
  replace D_cn := D_cn.ext hk
  replace D_ci := D_ci.ext hk
  replace e40 := e40.q
  replace own_bx := own_bx.ext hk
  replace own_b6_2 := own_b6_2.ext hk
  replace own_b8_7 := own_b8_7.ext hk
  replace kw := kw.x hk
  clear hR hk hg hP
  refine tail_store e6 e40 sz33 rfl own_b6_2 (lbr rfl) (all_cons rfl (all_cons rfl (all_cons rfl (all_cons rfl (all_cons rfl all_nil))))) (fun W22 hs own_b6_2 => ?_)
  have own_b6_2 : Own W22 b6_2 [(.int .u8 (0)), (.int .i64 (0)), (.string (⟨#[]⟩)), (.slice none 0 0), (.slice none 0 0)] 33 := own_b6_2
  replace own_bx := own_store own_bx hs ne_bx_b6_2
  replace own_b8_7 := own_store own_b8_7 hs ne_b6_2_b8_7.symm
  replace D_cn := sa_store D_cn hs (by simp)
  replace D_ci := sa_store D_ci hs (by simp)
  replace A_32_11 := arrA_store A_32_11 hs (by simp) nb_b6_2_11
  replace kw := keeps_store kw hs lo_b6_2
  clear hs
  refine tail_assign (v := (.bool (false))) rfl (by rw [y21]; exact Nat.le_of_ble_eq_true rfl) (fun a23 y23 zz23 e7 hr => ?_)
  replace y23 := y23.trans y21; replace zz23 := zz23.trans zz21
  replace e6 := (hr 6 (by decide)).trans e6
  replace e40 := (hr 40 (by decide)).trans e40
  clear hr
  refine zn (hK20 _ _ ?_)
  refine wp_ret ?_
  refine retCT (v := (.agg #[(.int .u8 (0)), (.int .i64 (0)), (.string (⟨#[]⟩)), (.slice none 0 0), (.slice none 0 0)])) rfl zz23 e6 own_b6_2 agg33 sz33 rfl (fun h => by cases h) rfl e7 ⟨_, rfl, kw, ?_⟩
  refine ⟨_, _, by rw [hfb], ?_, by rw [hre]; exact own_bx⟩
  rw [hfv]
  exact sa_ar (rdV_mk (lbr rfl) (rd_nil _) (rd_nil _) : Rd W22 (SA w S (blks hd32_11 ++ (b8_7 :: (b6_2 :: (bx :: []))))) (V.d (V.mk (0) (0) (⟨#[]⟩) ([]) ([]))) _)
 have hgb : ¬ grB x m = false := by simpa using hc
 refine wp_skip (hK14 _ _ ?_)
 refine zq fun K24 hK24 => ?_
 refine zq fun K25 hK25 => ?_
 refine rg mixed y16 zz16 ?_
 refine .mb rfl e2 ?_
 refine .i (sp_neq (hlc rfl) Has.cst) ?_
 refine .i (sp_move (hlc rfl)) ?_
 refine .e rfl (hlc rfl) (fun hg => fo 0 (hbs rfl e8) Try.underlying33 rfl sz5 rfl) ?_
 refine .e rfl (hlc rfl) (fun hg => lo1 ((hlc rfl).undE hg) own_b8_7 trivial agg5 sz5 rfl) ?_
 refine .em rfl (hlc rfl) rfl e2 ?_
 refine .e rfl (hlc rfl) (fun hg => sp_neq ((hlc rfl).undE hg) ((hlc rfl).undE hg)) ?_
 refine .i (sp_and (hlc rfl) ((hlc rfl).weak fun hq => hq)) ?_
 refine .dn fun a26 g W26 y26 zz26 hk hg hV hR hP => ?_
 obtain ⟨e48, -, -, -, -, -, -, -, -⟩ := hV
 replace e0 := ft hR e0
 replace e6 := ft hR e6
 replace e8 := ft hR e8
 replace A_32_11 := A_32_11.ext hk
 replace D_cn := D_cn.ext hk
 replace D_ci := D_ci.ext hk
 replace D_cn23_7 := D_cn23_7.ext hk
 replace D_ci23_7 := D_ci23_7.ext hk
 replace e48 := e48.q
 replace own_bx := own_bx.ext hk
 replace own_b6_2 := own_b6_2.ext hk
 replace own_b8_7 := own_b8_7.ext hk
 replace kw := kw.x hk
 clear hR hk hg hP
 refine zn (hK25 _ _ ?_)
 refine zc e48 (fun hc => ?_) (fun hc => ?_)
 ·
  have hre : rtE x m kd = 10 := by rw [rtE, if_neg hgb, if_pos]; simp at hc; omega
  obtain ⟨hfb, hfv⟩ := rt_no hre (by decide)
  refine zq fun K27 hK27 => ?_
  refine rg mixed y26 zz26 ?_
  refine .mb rfl e0 ?_
  refine .i (sp_nilP (hlc rfl)) ?_
  refine .i (fo 6 (hlc rfl) Try.underlying56 rfl sz28 rfl) ?_
  refine .dn fun a28 g W28 y28 zz28 hk hg hV hR hP => ?_
  obtain ⟨e51, -, -, -⟩ := hV
  replace e6 := ft hR e6
  replace A_32_11 := A_32_11.ext hk
  replace D_cn := D_cn.ext hk
  replace D_ci := D_ci.ext hk
  replace D_cn23_7 := D_cn23_7.ext hk
  replace D_ci23_7 := D_ci23_7.ext hk
  have e51 : sl a28 51 = (.pointer (some ⟨bx, 6, none⟩)) := e51
  replace own_bx := own_bx.ext hk
  replace own_b6_2 := own_b6_2.ext hk
  replace own_b8_7 := own_b8_7.ext hk
  replace kw := kw.x hk
  clear hR hk hg hP
  refine tail_store (b := bx) (o := 6) (v := (.int .i64 (10))) e51 rfl sz28 rfl own_bx (lbr rfl) (all_cons rfl all_nil) (fun W29 hs own_bx => ?_)
  have own_bx : Own W29 bx [(.int .u8 (x.k)), (.int .i64 (x.n)), (.string (x.t)), (.slice cna (x.ns.length) cnc), (.slice cia (x.xs.length) cic), (.slice v32_11a v32_11n v32_11c), (.int .i64 (10))] 56 := own_bx
  replace own_b6_2 := own_store own_b6_2 hs ne_bx_b6_2.symm
  replace own_b8_7 := own_store own_b8_7 hs ne_bx_b8_7.symm
  replace D_cn := sa_store D_cn hs (by simp)
  replace D_ci := sa_store D_ci hs (by simp)
  replace D_cn23_7 := sa_store D_cn23_7 hs (by simp)
  replace D_ci23_7 := sa_store D_ci23_7 hs (by simp)
  replace A_32_11 := arrA_store A_32_11 hs (by simp) nb_bx_11
  replace kw := keeps_storeN kw hs (by simp)
  clear hs
  refine zn (hK27 _ _ ?_)
  refine zq fun K30 hK30 => ?_
  refine rg mixed y28 zz28 ?_
  refine .i (v := (.agg #[(.int .u8 (0)), (.int .i64 (0)), (.string (⟨#[]⟩)), (.slice none 0 0), (.slice none 0 0)])) (sp_build (vs := []) Try.underlying33 z33 (pl33 Try.underlying33) trivial rfl) ?_
  refine .dn fun a31 g W31 y31 zz31 hk hg hV hR hP => ?_
  obtain ⟨e52, -⟩ := hV
  replace e6 := ft hR e6
  replace A_32_11 := A_32_11.ext hk
  replace D_cn := D_cn.ext hk
  replace D_ci := D_ci.ext hk
  replace e52 := e52.q
  replace own_bx := own_bx.ext hk
  replace own_b6_2 := own_b6_2.ext hk
  replace own_b8_7 := own_b8_7.ext hk
  replace kw := kw.x hk
  clear hR hk hg hP
  refine tail_store e6 e52 sz33 rfl own_b6_2 (lbr rfl) (all_cons rfl (all_cons rfl (all_cons rfl (all_cons rfl (all_cons rfl all_nil))))) (fun W32 hs own_b6_2 => ?_)
  have own_b6_2 : Own W32 b6_2 [(.int .u8 (0)), (.int .i64 (0)), (.string (⟨#[]⟩)), (.slice none 0 0), (.slice none 0 0)] 33 := own_b6_2
  replace own_bx := own_store own_bx hs ne_bx_b6_2
  replace own_b8_7 := own_store own_b8_7 hs ne_b6_2_b8_7.symm
  replace D_cn := sa_store D_cn hs (by simp)
  replace D_ci := sa_store D_ci hs (by simp)
  replace A_32_11 := arrA_store A_32_11 hs (by simp) nb_b6_2_11
  replace kw := keeps_store kw hs lo_b6_2
  clear hs
  refine tail_assign (v := (.bool (false))) rfl (by rw [y31]; exact Nat.le_of_ble_eq_true rfl) (fun a33 y33 zz33 e7 hr => ?_)
  replace y33 := y33.trans y31; replace zz33 := zz33.trans zz31
  replace e6 := (hr 6 (by decide)).trans e6
  replace e52 := (hr 52 (by decide)).trans e52
  clear hr
  refine zn (hK30 _ _ ?_)
  refine wp_ret ?_
  refine retCT (v := (.agg #[(.int .u8 (0)), (.int .i64 (0)), (.string (⟨#[]⟩)), (.slice none 0 0), (.slice none 0 0)])) rfl zz33 e6 own_b6_2 agg33 sz33 rfl (fun h => by cases h) rfl e7 ⟨_, rfl, kw, ?_⟩
  refine ⟨_, _, by rw [hfb], ?_, by rw [hre]; exact own_bx⟩
  rw [hfv]
  exact sa_ar (rdV_mk (lbr rfl) (rd_nil _) (rd_nil _) : Rd W32 (SA w S (blks hd32_11 ++ (b8_7 :: (b6_2 :: (bx :: []))))) (V.d (V.mk (0) (0) (⟨#[]⟩) ([]) ([]))) _)
 have hre : rtE x m kd = 0 := by rw [rtE, if_neg hgb, if_neg]; simp at hc; omega
 obtain ⟨hfb, hfv⟩ := rt_ok hre
 refine wp_skip (hK24 _ _ ?_)
 refine zq fun K34 hK34 => ?_
 refine rg mixed y26 zz26 ?_
 refine .i (v := (.agg #[(.int .u8 ((grV x m).k)), (.int .i64 ((grV x m).n)), (.string ((grV x m).t)), (.slice cn23_7a (((grV x m).ns).length) cn23_7c), (.slice ci23_7a (((grV x m).xs).length) ci23_7c)])) (loA (hbs rfl e8) own_b8_7 trivial agg33 sz33 rfl rfl) ?_
 refine .dn fun a35 g W35 y35 zz35 hk hg hV hR hP => ?_
 obtain ⟨e53, -⟩ := hV
 replace e6 := ft hR e6
 replace A_32_11 := A_32_11.ext hk
 replace D_cn := D_cn.ext hk
 replace D_ci := D_ci.ext hk
 replace D_cn23_7 := D_cn23_7.ext hk
 replace D_ci23_7 := D_ci23_7.ext hk
 replace e53 := e53.q
 replace own_bx := own_bx.ext hk
 replace own_b6_2 := own_b6_2.ext hk
 replace own_b8_7 := own_b8_7.ext hk
 replace kw := kw.x hk
 clear hR hk hg hP
 refine tail_store e6 e53 sz33 rfl own_b6_2 (lbr rfl) (all_cons rfl (all_cons rfl (all_cons rfl (all_cons rfl (all_cons rfl all_nil))))) (fun W36 hs own_b6_2 => ?_)
 have own_b6_2 : Own W36 b6_2 [(.int .u8 ((grV x m).k)), (.int .i64 ((grV x m).n)), (.string ((grV x m).t)), (.slice cn23_7a (((grV x m).ns).length) cn23_7c), (.slice ci23_7a (((grV x m).xs).length) ci23_7c)] 33 := own_b6_2
 replace own_bx := own_store own_bx hs ne_bx_b6_2
 replace own_b8_7 := own_store own_b8_7 hs ne_b6_2_b8_7.symm
 replace D_cn := sa_store D_cn hs (by simp)
 replace D_ci := sa_store D_ci hs (by simp)
 replace D_cn23_7 := sa_store D_cn23_7 hs (by simp)
 replace D_ci23_7 := sa_store D_ci23_7 hs (by simp)
 replace A_32_11 := arrA_store A_32_11 hs (by simp) nb_b6_2_11
 replace kw := keeps_store kw hs lo_b6_2
 clear hs
 refine tail_assign (v := (.bool (true))) rfl (by rw [y35]; exact Nat.le_of_ble_eq_true rfl) (fun a37 y37 zz37 e7 hr => ?_)
 replace y37 := y37.trans y35; replace zz37 := zz37.trans zz35
 replace e6 := (hr 6 (by decide)).trans e6
 replace e53 := (hr 53 (by decide)).trans e53
 clear hr
 refine zn (hK34 _ _ ?_)
 refine wp_ret ?_
 refine retCT (v := (.agg #[(.int .u8 ((grV x m).k)), (.int .i64 ((grV x m).n)), (.string ((grV x m).t)), (.slice cn23_7a (((grV x m).ns).length) cn23_7c), (.slice ci23_7a (((grV x m).xs).length) ci23_7c)])) rfl zz37 e6 own_b6_2 agg33 sz33 rfl (fun h => by cases h) rfl e7 ⟨_, rfl, kw, ?_⟩
 refine ⟨_, _, by rw [hfb], ?_, by rw [hre]; exact own_bx⟩
 rw [hfv]
 exact sa_ar (rdV_in (x := (grV x m)) ht_v23_7 D_cn23_7 D_ci23_7 : Rd W36 (SA w S (blks hd32_11 ++ (b8_7 :: (b6_2 :: (bx :: []))))) (V.d ((grV x m))) _)
end Go.Proofs.Ytnobijngkpflcaa
