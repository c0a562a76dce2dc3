/-
  The law PickPlays of package legatelaw11 returns true for every input, and leaves its arguments as they were. No condition beyond the row's own.
-/
import Derived.Test.YtnobijngkpflcaaPp3
import Derived.KernelRfl
namespace Go.Proofs.Ytnobijngkpflcaa
open Go.Eng
set_option maxRecDepth 100000 in
theorem text1_ok (x : V) (hxt : x.t.size ≤ maxLen) (w : World) (S : BSet) (v : Value) (hv : Rd w S x.d v) : Calls Try.prog 103 #[v] w (Ret w fun r _ => r = .tuple #[.string (textV x), .int .i64 (textE x)]) := by
 obtain ⟨cn0a, cn0c, ci0a, ci0c, ev, ht0, D_cn0, D_ci0⟩ := rdV_out (rd_arg hv)
 subst ev
 refine enter Try.func103 rfl Try.ntmps103 (lbr rfl) fun a0 y0 zz0 harg => ?_
 have e0 : sl a0 0 = (.agg #[(.int .u8 (x.k)), (.int .i64 (x.n)), (.string (x.t)), (.slice cn0a (x.ns.length) cn0c), (.slice ci0a (x.xs.length) ci0c)]) := harg 0 (lbr rfl)
 have kw := Keeps.refl All w
 clear harg
 refine zq fun K1 hK1 => ?_
 refine rg mixed y0 zz0 ?_
 refine .boxOp (v := (.agg #[(.int .u8 (x.k)), (.int .i64 (x.n)), (.string (x.t)), (.slice cn0a (x.ns.length) cn0c), (.slice ci0a (x.xs.length) ci0c)])) (hbs rfl e0) ?_
 refine .ac ?_
 refine .ac ?_
 refine .dn fun a2 g W2 y2 zz2 hk hg hV hR hP => ?_
 obtain ⟨-, -, ⟨b1_2, e1, hb1, own_b1_2⟩, -⟩ := hV
 have lo_b1_2 : w.heap.size ≤ b1_2 := Nat.le_trans kw.size (hg.lo _ _ hb1)
 have own_b1_2 : Own W2 b1_2 [(.int .u8 (x.k)), (.int .i64 (x.n)), (.string (x.t)), (.slice cn0a (x.ns.length) cn0c), (.slice ci0a (x.xs.length) ci0c)] 33 := own_b1_2
 replace D_cn0 := sa_more D_cn0 hk [b1_2] (in_cons (hg.lo _ _ hb1) in_nil)
 replace D_ci0 := sa_more D_ci0 hk [b1_2] (in_cons (hg.lo _ _ hb1) in_nil)
 replace kw := kw.x hk
 clear hR hk hg hP hb1
 refine zn (hK1 _ _ ?_)
 refine zq fun K3 hK3 => ?_
 refine zq fun K4 hK4 => ?_
 refine rg mixed y2 zz2 ?_
 refine .i (fo 0 (hbs rfl e1) Try.underlying33 rfl sz5 rfl) ?_
 refine .i (lo1 (hlc rfl) own_b1_2 trivial agg5 sz5 rfl) ?_
 refine .i (sp_neq (hlc rfl) Has.cst) ?_
 refine .dn fun a5 g W5 y5 zz5 hk hg hV hR hP => ?_
 obtain ⟨e6, -, -, -⟩ := hV
 replace e1 := ft hR e1
 replace D_cn0 := D_cn0.ext hk
 replace D_ci0 := D_ci0.ext hk
 replace e6 := e6.q
 replace own_b1_2 := own_b1_2.ext hk
 replace kw := kw.x hk
 clear hR hk hg hP
 refine zn (hK4 _ _ ?_)
 refine zc e6 (fun hc => ?_) (fun hc => ?_)
 ·
  have hk : x.k ≠ 3 := by simp at hc; omega
  have hf : textE x = 10 := by rw [textE, if_pos hk]
  have hv2 : textV x = ⟨#[]⟩ := by rw [textV, hf]; rfl
  refine zq fun K6 hK6 => ?_
  refine rg mixed y5 zz5 ?_
  refine .ac ?_
  refine .ac ?_
  refine .dn fun a7 g W7 y7 zz7 hk hg hV hR hP => ?_
  obtain ⟨e3, e2, -⟩ := hV
  replace D_cn0 := D_cn0.ext hk
  replace D_ci0 := D_ci0.ext hk
  replace e2 := e2.q
  replace e3 := e3.q
  replace own_b1_2 := own_b1_2.ext hk
  replace kw := kw.x hk
  clear hR hk hg hP
  refine zn (hK6 _ _ ?_)
  refine wp_ret ?_
  refine ret2 rfl zz7 e2 e3 ⟨_, rfl, kw, ?_⟩
  rw [hf, hv2]
 have hk : ¬ x.k ≠ 3 := by simp at hc; omega
 have hf : textE x = 0 := by rw [textE, if_neg hk]
 have hv2 : textV x = x.t := by rw [textV, if_pos hf]
 refine wp_skip (hK3 _ _ ?_)
 refine zq fun K8 hK8 => ?_
 refine rg mixed y5 zz5 ?_
 refine .i (fo 2 (hbs rfl e1) Try.underlying33 rfl sz9 rfl) ?_
 refine .i (lo1 (hlc rfl) own_b1_2 trivial agg9 sz9 rfl) ?_
 refine .al rfl ?_
 refine .ac ?_
 refine .dn fun a9 g W9 y9 zz9 hk hg hV hR hP => ?_
 obtain ⟨e3, e2, -, -, -⟩ := hV
 replace D_cn0 := D_cn0.ext hk
 replace D_ci0 := D_ci0.ext hk
 replace e2 := e2.q
 replace e3 := e3.q
 replace own_b1_2 := own_b1_2.ext hk
 replace kw := kw.x hk
 clear hR hk hg hP
 refine zn (hK8 _ _ ?_)
 refine wp_ret ?_
 refine ret2 rfl zz9 e2 e3 ⟨_, rfl, kw, ?_⟩
 rw [hf, hv2]
set_option maxRecDepth 100000 in
theorem takeT_ok (x : V) (A : As) (e : Int) (hA : AB 1000000 A) (hx : x.wt ≤ 1073741824) (hxt : x.t.size ≤ maxLen) (name : ByteArray) (fi : FuncId) (cb : Array Value) (ce : V → Int) (fv : V → ByteArray) (w : World) (S : BSet) (cn ci : Value) (bo bm : Nat) (hS : ∀ b o, S b o → Cln o) (hM : ∀ b ∈ [bo, bm], ∀ o, ¬ S b o) (hne : bo ≠ bm) (hv : Rd w S (strsD x.ns) cn) (hu : Rd w S (valsD x.xs) ci) (own_bo : Own w bo [.int .u8 x.k, .int .i64 x.n, .string x.t, cn, ci, .map (some bm), .int .i64 (e)] 74) (own_bm : OwnM w bm A) (ef : Enters Try.prog fi) (hf : ∀ W, Keeps (fun k => k ∉ [bo, bm]) w W → ∀ (y : V) (v : Value), y.wt ≤ 1073741824 → Rd W (Fr w) y.d v → Calls Try.prog fi (#[v] ++ cb) W (Ret W fun r _ => r = .tuple #[.string (fv y), .int .i64 (ce y)])) : Calls Try.prog 102 #[.pointer (some ⟨bo, 0, none⟩), .string name, .func (.func fi) #[] cb] w (RetL w [bo, bm] fun u W => u = .string (if tkB x e name ce then fv (getV x name) else ⟨#[]⟩) ∧ Own W bo [.int .u8 x.k, .int .i64 x.n, .string x.t, cn, ci, .map (some bm), .int .i64 (tkE x e name ce)] 74 ∧ OwnM W bm (tkA x A e name ce)) := by
 have hwx := wt_eq x
 have hwl := wts_len x.xs
 have hwn := wtN_len x.ns
 obtain ⟨cna, cnc, ev, D_cn⟩ := rdS_out (rd_argM (M := [bo, bm]) hv hM)
 subst ev
 obtain ⟨cia, cic, ev, D_ci⟩ := rdVs_out (rd_argM (M := [bo, bm]) hu hM)
 subst ev
 refine enter Try.func102 rfl Try.ntmps102 (lbr rfl) fun a0 y0 zz0 harg => ?_
 have e0 : sl a0 0 = (.pointer (some ⟨bo, 0, none⟩)) := harg 0 (lbr rfl)
 have e1 : sl a0 1 = (.string (name)) := harg 1 (lbr rfl)
 have e2 : sl a0 2 = (.func (.func fi) #[] cb) := harg 2 (lbr rfl)
 have kw := Keeps.refl (fun k => k ∉ [bo, bm]) w
 clear harg
 refine zq fun K1 hK1 => ?_
 refine rg mixed y0 zz0 ?_
 refine .ac ?_
 refine .dn fun a2 g W2 y2 zz2 hk hg hV hR hP => ?_
 obtain ⟨-, -⟩ := hV
 replace e0 := ft hR e0
 replace e1 := ft hR e1
 replace e2 := ft hR e2
 replace D_cn := D_cn.ext hk
 replace D_ci := D_ci.ext hk
 replace own_bo := own_bo.ext hk
 replace own_bm := own_bm.ext hk
 replace kw := kw.x hk
 clear hR hk hg hP
 refine zn (hK1 _ _ ?_)
 refine zq fun K3 hK3 => ?_
 refine rg mixed y2 zz2 ?_
 refine .ac ?_
 refine .dn fun a4 g W4 y4 zz4 hk hg hV hR hP => ?_
 obtain ⟨e7, -⟩ := hV
 replace e0 := ft hR e0
 replace e1 := ft hR e1
 replace e2 := ft hR e2
 replace D_cn := D_cn.ext hk
 replace D_ci := D_ci.ext hk
 replace e7 := e7.q
 replace own_bo := own_bo.ext hk
 replace own_bm := own_bm.ext hk
 replace kw := kw.x hk
 clear hR hk hg hP
 refine zn (hK3 _ _ ?_)
 refine zq fun K5 hK5 => ?_
 refine zq fun K6 hK6 => ?_
 refine rg mixed y4 zz4 ?_
 refine .mb rfl e0 ?_
 refine .i (v := (.int .i64 (errK x.k e))) (sp_call1 (φ1 := Is (.pointer (some ⟨bo, 0, none⟩))) ent24 (hlc rfl) (fun g u1 W hk hgk h1 => by have h1 : u1 = _ := h1; subst u1; exact Err_ok _ _ _ _ _ _ _ W _ (own_bo.ext hk))) ?_
 refine .i (sp_neq (hlc rfl) Has.cst) ?_
 refine .dn fun a7 g W7 y7 zz7 hk hg hV hR hP => ?_
 obtain ⟨e14, -, -, -⟩ := hV
 replace e0 := ft hR e0
 replace e1 := ft hR e1
 replace e2 := ft hR e2
 replace e7 := ft hR e7
 replace D_cn := D_cn.ext hk
 replace D_ci := D_ci.ext hk
 replace e14 := e14.q
 replace own_bo := own_bo.ext hk
 replace own_bm := own_bm.ext hk
 replace kw := kw.x hk
 clear hR hk hg hP
 refine zn (hK6 _ _ ?_)
 refine zc e14 (fun hc => ?_) (fun hc => ?_)
 ·
  have hE : errK x.k e ≠ 0 := by simpa using hc
  have h1 : tkE x e name ce = e := by rw [tkE, if_pos hE]
  have h2 : tkB x e name ce = false := by simp [tkB, hE]
  have h3 : tkA x A e name ce = A := by rw [tkA, h2]; rfl
  refine zq fun K8 hK8 => ?_
  refine rg mixed y7 zz7 ?_
  refine .mb rfl e7 ?_
  refine .al rfl ?_
  refine .dn fun a9 g W9 y9 zz9 hk hg hV hR hP => ?_
  obtain ⟨e6, -, -⟩ := hV
  replace D_cn := D_cn.ext hk
  replace D_ci := D_ci.ext hk
  replace e6 := e6.q
  replace own_bo := own_bo.ext hk
  replace own_bm := own_bm.ext hk
  replace kw := kw.x hk
  clear hR hk hg hP
  refine zn (hK8 _ _ ?_)
  refine wp_ret ?_
  refine ret1 rfl zz9 e6 ⟨_, rfl, kw, ?_⟩
  rw [h1, h3, h2]
  exact ⟨rfl, own_bo, own_bm⟩
 have hE : errK x.k e = 0 := by simpa using hc
 have he0 := (errK_zero hE).1
 refine wp_skip (hK5 _ _ ?_)
 refine zq fun K10 hK10 => ?_
 refine rg mixed y7 zz7 ?_
 refine .mb rfl e0 ?_
 refine .i (sp_nilP (hlc rfl)) ?_
 refine .i (fo 0 (hlc rfl) Try.underlying74 rfl sz33 rfl) ?_
 refine .i (v := (.agg #[(.int .u8 (x.k)), (.int .i64 (x.n)), (.string (x.t)), (.slice cna (x.ns.length) cnc), (.slice cia (x.xs.length) cic)])) (loA (hlc rfl) own_bo trivial agg33 sz33 rfl rfl) ?_
 refine .mb rfl e1 ?_
 refine .op (φ := IsT (IsD (Fr W7) (V.d (getV (x) name))) (Is (.bool (getB (x) name)))) (st_t (st_d sub_all) (st_is _)) (sp_call2 (φ1 := IsD (SA w S [bo, bm]) (V.d (x))) (φ2 := Is (.string (name))) ent101 ((hlc rfl).dat (rdV_in (x := x) hxt D_cn D_ci : Rd W7 (SA w S [bo, bm]) (V.d (x)) _) sub_all) (hlc rfl) (fun g u1 u2 W hk hgk h1 h2 => by have h2 : u2 = _ := h2; subst u2; exact (Get_ok (x) (name) (by omega) W _ _ (fun b o h => sa_cln hS b o h.1) h1).mono (fun _ _ ⟨v, h1, h2, r1, h3, h4⟩ => ⟨v, h1, h2, r1, _, h3, fresh_d hk hgk h4, rfl⟩))) ?_
 refine .op (φ := IsT (IsD (Fr W7) (V.d (getV (x) name))) (Is (.bool (getB (x) name)))) (st_t (st_d sub_all) (st_is _)) (sp_move (hlc rfl)) ?_
 refine .da (X := Fr W7) (e := V.d (getV (x) name)) (sp_ext2 (hlc rfl) rfl) ?_
 refine .i (v := (.bool (getB (x) name))) (sp_ext2' (hlc rfl) rfl) ?_
 refine .alloc z33 ?_
 refine .dn fun a11 g W11 y11 zz11 hk hg hV hR hP => ?_
 obtain ⟨⟨b8_11, e8, hb8, own_b8_11⟩, e24, e23, -, -, -, -, -, -, -, -⟩ := hV
 have lo_b8_11 : w.heap.size ≤ b8_11 := Nat.le_trans kw.size (hg.lo _ _ hb8)
 have ne_bo_b8_11 : bo ≠ b8_11 := Nat.ne_of_lt (Nat.lt_of_lt_of_le own_bo.lt (hg.lo _ _ hb8))
 have ne_bm_b8_11 : bm ≠ b8_11 := Nat.ne_of_lt (Nat.lt_of_lt_of_le own_bm.lt (hg.lo _ _ hb8))
 have own_b8_11 : Own W11 b8_11 z5C 33 := own_b8_11
 replace e0 := ft hR e0
 replace e1 := ft hR e1
 replace e2 := ft hR e2
 replace e7 := ft hR e7
 replace D_cn := sa_more D_cn hk [b8_11] (in_cons (hg.lo _ _ hb8) in_nil)
 replace D_ci := sa_more D_ci hk [b8_11] (in_cons (hg.lo _ _ hb8) in_nil)
 obtain ⟨v23_11, ev⟩ : ∃ v, sl a11 23 = v := ⟨_, rfl⟩
 rw [ev] at e23
 have D_v23_11 : Rd W11 (SF w [b8_11, bo, bm]) (V.d (getV (x) name)) v23_11 := fr_end (M := [bo, bm]) e23 kw [b8_11] (in_cons ⟨_, hb8⟩ in_nil) (in_cons own_bo.lt (in_cons own_bm.lt in_nil))
 replace e23 := ev; clear ev
 obtain ⟨cn23_11a, cn23_11c, ci23_11a, ci23_11c, ev, ht_v23_11, D_cn23_11, D_ci23_11⟩ := rdV_out D_v23_11
 subst ev; clear D_v23_11
 replace e24 := e24.q
 replace own_bo := own_bo.ext hk
 replace own_bm := own_bm.ext hk
 replace kw := kw.x hk
 clear hR hk hg hP hb8
 refine tail_store e8 e23 sz33 rfl own_b8_11 (lbr rfl) (all_cons rfl (all_cons rfl (all_cons rfl (all_cons rfl (all_cons rfl all_nil))))) (fun W12 hs own_b8_11 => ?_)
 have own_b8_11 : Own W12 b8_11 [(.int .u8 ((getV (x) name).k)), (.int .i64 ((getV (x) name).n)), (.string ((getV (x) name).t)), (.slice cn23_11a (((getV (x) name).ns).length) cn23_11c), (.slice ci23_11a (((getV (x) name).xs).length) ci23_11c)] 33 := own_b8_11
 replace own_bo := own_store own_bo hs ne_bo_b8_11
 replace own_bm := ownM_store own_bm hs ne_bm_b8_11
 replace D_cn := sa_store D_cn hs (by simp)
 replace D_ci := sa_store D_ci hs (by simp)
 replace D_cn23_11 := sf_store D_cn23_11 hs (by simp)
 replace D_ci23_11 := sf_store D_ci23_11 hs (by simp)
 replace kw := keeps_store kw hs lo_b8_11
 clear hs
 refine tail_assign (v := (.bool (getB (x) name))) e24 (by rw [y11]; exact Nat.le_of_ble_eq_true rfl) (fun a13 y13 zz13 e9 hr => ?_)
 replace y13 := y13.trans y11; replace zz13 := zz13.trans zz11
 replace e0 := (hr 0 (by decide)).trans e0
 replace e1 := (hr 1 (by decide)).trans e1
 replace e2 := (hr 2 (by decide)).trans e2
 replace e7 := (hr 7 (by decide)).trans e7
 replace e8 := (hr 8 (by decide)).trans e8
 replace e23 := (hr 23 (by decide)).trans e23
 replace e24 := (hr 24 (by decide)).trans e24
 clear hr
 refine zn (hK10 _ _ ?_)
 refine zq fun K14 hK14 => ?_
 refine zq fun K15 hK15 => ?_
 refine rg mixed y13 zz13 ?_
 refine .mb rfl e9 ?_
 refine .i (sp_not (hlc rfl)) ?_
 refine .dn fun a16 g W16 y16 zz16 hk hg hV hR hP => ?_
 obtain ⟨e26, -, -⟩ := hV
 replace e0 := ft hR e0
 replace e1 := ft hR e1
 replace e2 := ft hR e2
 replace e7 := ft hR e7
 replace e8 := ft hR e8
 replace D_cn := D_cn.ext hk
 replace D_ci := D_ci.ext hk
 replace D_cn23_11 := D_cn23_11.ext hk
 replace D_ci23_11 := D_ci23_11.ext hk
 replace e26 := e26.q
 replace own_bo := own_bo.ext hk
 replace own_bm := own_bm.ext hk
 replace own_b8_11 := own_b8_11.ext hk
 replace kw := kw.x hk
 clear hR hk hg hP
 refine zn (hK15 _ _ ?_)
 refine zc e26 (fun hc => ?_) (fun hc => ?_)
 ·
  have hg0 : getB x name = false := by simpa using hc
  have h1 : tkE x e name ce = failK x.k e 6 := by rw [tkE, if_neg (by simp [hE]), if_pos hg0, failK, if_pos hE]
  have h2 : tkB x e name ce = false := by simp [tkB, hg0]
  have h3 : tkA x A e name ce = A := by rw [tkA, h2]; rfl
  refine zq fun K17 hK17 => ?_
  refine wp_reg (fun k => k ∉ [bo]) (Ψ := fun W => Own W bo [(.int .u8 (x.k)), (.int .i64 (x.n)), (.string (x.t)), (.slice cna (x.ns.length) cnc), (.slice cia (x.xs.length) cic), (.map (some bm)), (.int .i64 (e))] 74) mixed y16 zz16 stE_own own_bo ?_
  refine .mb rfl e0 ?_
  refine .callL2 (φ1 := Is (.pointer (some ⟨bo, 0, none⟩))) (φ2 := Is (.int .i64 (6))) (φ := Is (.tuple #[])) (Ψ' := fun W => Own W bo [(.int .u8 (x.k)), (.int .i64 (x.n)), (.string (x.t)), (.slice cna (x.ns.length) cnc), (.slice cia (x.xs.length) cic), (.map (some bm)), (.int .i64 (failK x.k e 6))] 74) ent22 (hlc rfl) Has.cst (st_is _) stE_own (fun g u1 u2 W hk hg h1 h2 hP => by have h1 : u1 = _ := h1; subst u1; have h2 : u2 = _ := h2; subst u2; exact (Fail_ok _ _ _ _ _ _ _ (6) W _ hP)) ?_
  refine .dn fun a18 g W18 y18 zz18 hk hg hV hR hP => ?_
  obtain ⟨-, -, -⟩ := hV
  replace e7 := ft hR e7
  replace D_cn := sa_keepL D_cn hk (by simp)
  replace D_ci := sa_keepL D_ci hk (by simp)
  replace D_cn23_11 := sf_keepL D_cn23_11 hk (by simp)
  replace D_ci23_11 := sf_keepL D_ci23_11 hk (by simp)
  replace own_bm := ownM_keepL own_bm hk (by simp [hne.symm])
  replace own_b8_11 := own_keepL own_b8_11 hk (by simp [ne_bo_b8_11.symm])
  have own_bo := hP
  replace own_bo : Own W18 bo [(.int .u8 (x.k)), (.int .i64 (x.n)), (.string (x.t)), (.slice cna (x.ns.length) cnc), (.slice cia (x.xs.length) cic), (.map (some bm)), (.int .i64 (failK x.k e 6))] 74 := own_bo
  replace kw := keeps_L kw hk (in_cons (.inr (by simp)) in_nil)
  clear hR hk hg hP
  refine zn (hK17 _ _ ?_)
  refine zq fun K19 hK19 => ?_
  refine rg mixed y18 zz18 ?_
  refine .mb rfl e7 ?_
  refine .al rfl ?_
  refine .dn fun a20 g W20 y20 zz20 hk hg hV hR hP => ?_
  obtain ⟨e6, -, -⟩ := hV
  replace D_cn := D_cn.ext hk
  replace D_ci := D_ci.ext hk
  replace e6 := e6.q
  replace own_bo := own_bo.ext hk
  replace own_bm := own_bm.ext hk
  replace own_b8_11 := own_b8_11.ext hk
  replace kw := kw.x hk
  clear hR hk hg hP
  refine zn (hK19 _ _ ?_)
  refine wp_ret ?_
  refine ret1 rfl zz20 e6 ⟨_, rfl, kw, ?_⟩
  rw [h1, h3, h2]
  exact ⟨rfl, own_bo, own_bm⟩
 have hg1 : getB x name = true := by simpa using hc
 have hAn := hA name
 have hwg := Nat.le_trans (getV_wt x name) hx
 refine wp_skip (hK14 _ _ ?_)
 refine zq fun K21 hK21 => ?_
 refine rg mixed y16 zz16 ?_
 refine .mb rfl e2 ?_
 refine .i (v := (.agg #[(.int .u8 ((getV (x) name).k)), (.int .i64 ((getV (x) name).n)), (.string ((getV (x) name).t)), (.slice cn23_11a (((getV (x) name).ns).length) cn23_11c), (.slice ci23_11a (((getV (x) name).xs).length) ci23_11c)])) (loA (hbs rfl e8) own_b8_11 trivial agg33 sz33 rfl rfl) ?_
 refine .i (v := (.tuple #[(.string (fv (getV x name))), (.int .i64 (ce (getV x name)))])) (sp_callF1 ef (hlc rfl) (hlc rfl) (fun g W hk hgk => hf W (kw.trans (.of_ext hk)) _ _ hwg (sf_fr (Rd.ext (rdV_in (x := (getV (x) name)) ht_v23_11 D_cn23_11 D_ci23_11 : Rd W16 (SF w [b8_11, bo, bm]) (V.d ((getV (x) name))) _) hk)))) ?_
 refine .i (sp_move (hlc rfl)) ?_
 refine .i (v := (.string (fv (getV x name)))) (sp_extT (hlc rfl) rfl) ?_
 refine .i (v := (.int .i64 (ce (getV x name)))) (sp_extT (hlc rfl) rfl) ?_
 refine .al rfl ?_
 refine .al rfl ?_
 refine .dn fun a22 g W22 y22 zz22 hk hg hV hR hP => ?_
 obtain ⟨e11, e10, -, -, -, -, -, -, -⟩ := hV
 replace e0 := ft hR e0
 replace e1 := ft hR e1
 replace e7 := ft hR e7
 replace D_cn := D_cn.ext hk
 replace D_ci := D_ci.ext hk
 replace D_cn23_11 := D_cn23_11.ext hk
 replace D_ci23_11 := D_ci23_11.ext hk
 replace e10 := e10.q
 replace e11 := e11.q
 replace own_bo := own_bo.ext hk
 replace own_bm := own_bm.ext hk
 replace own_b8_11 := own_b8_11.ext hk
 replace kw := kw.x hk
 clear hR hk hg hP
 refine zn (hK21 _ _ ?_)
 refine zq fun K23 hK23 => ?_
 refine zq fun K24 hK24 => ?_
 refine rg mixed y22 zz22 ?_
 refine .mb rfl e11 ?_
 refine .i (sp_neq (hlc rfl) Has.cst) ?_
 refine .dn fun a25 g W25 y25 zz25 hk hg hV hR hP => ?_
 obtain ⟨e37, -, -⟩ := hV
 replace e0 := ft hR e0
 replace e1 := ft hR e1
 replace e7 := ft hR e7
 replace e10 := ft hR e10
 replace e11 := ft hR e11
 replace D_cn := D_cn.ext hk
 replace D_ci := D_ci.ext hk
 replace e37 := e37.q
 replace own_bo := own_bo.ext hk
 replace own_bm := own_bm.ext hk
 replace own_b8_11 := own_b8_11.ext hk
 replace kw := kw.x hk
 clear hR hk hg hP
 refine zn (hK24 _ _ ?_)
 refine zc e37 (fun hc => ?_) (fun hc => ?_)
 ·
  have hce : ce (getV x name) ≠ 0 := by simpa using hc
  have h1 : tkE x e name ce = failK x.k e (ce (getV x name)) := by rw [tkE, if_neg (by simp [hE]), if_neg (by simp [hg1]), failK, if_pos hE]
  have h2 : tkB x e name ce = false := by simp [tkB, hce]
  have h3 : tkA x A e name ce = A := by rw [tkA, h2]; rfl
  refine zq fun K26 hK26 => ?_
  refine wp_reg (fun k => k ∉ [bo]) (Ψ := fun W => Own W bo [(.int .u8 (x.k)), (.int .i64 (x.n)), (.string (x.t)), (.slice cna (x.ns.length) cnc), (.slice cia (x.xs.length) cic), (.map (some bm)), (.int .i64 (e))] 74) mixed y25 zz25 stE_own own_bo ?_
  refine .mb rfl e0 ?_
  refine .mb rfl e11 ?_
  refine .callL2 (φ1 := Is (.pointer (some ⟨bo, 0, none⟩))) (φ2 := Is (.int .i64 (ce (getV x name)))) (φ := Is (.tuple #[])) (Ψ' := fun W => Own W bo [(.int .u8 (x.k)), (.int .i64 (x.n)), (.string (x.t)), (.slice cna (x.ns.length) cnc), (.slice cia (x.xs.length) cic), (.map (some bm)), (.int .i64 (failK x.k e (ce (getV x name))))] 74) ent22 (hlc rfl) (hlc rfl) (st_is _) stE_own (fun g u1 u2 W hk hg h1 h2 hP => by have h1 : u1 = _ := h1; subst u1; have h2 : u2 = _ := h2; subst u2; exact (Fail_ok _ _ _ _ _ _ _ (ce (getV x name)) W _ hP)) ?_
  refine .dn fun a27 g W27 y27 zz27 hk hg hV hR hP => ?_
  obtain ⟨-, -, -, -⟩ := hV
  replace e7 := ft hR e7
  replace D_cn := sa_keepL D_cn hk (by simp)
  replace D_ci := sa_keepL D_ci hk (by simp)
  replace own_bm := ownM_keepL own_bm hk (by simp [hne.symm])
  replace own_b8_11 := own_keepL own_b8_11 hk (by simp [ne_bo_b8_11.symm])
  have own_bo := hP
  replace own_bo : Own W27 bo [(.int .u8 (x.k)), (.int .i64 (x.n)), (.string (x.t)), (.slice cna (x.ns.length) cnc), (.slice cia (x.xs.length) cic), (.map (some bm)), (.int .i64 (failK x.k e (ce (getV x name))))] 74 := own_bo
  replace kw := keeps_L kw hk (in_cons (.inr (by simp)) in_nil)
  clear hR hk hg hP
  refine zn (hK26 _ _ ?_)
  refine zq fun K28 hK28 => ?_
  refine rg mixed y27 zz27 ?_
  refine .mb rfl e7 ?_
  refine .al rfl ?_
  refine .dn fun a29 g W29 y29 zz29 hk hg hV hR hP => ?_
  obtain ⟨e6, -, -⟩ := hV
  replace D_cn := D_cn.ext hk
  replace D_ci := D_ci.ext hk
  replace e6 := e6.q
  replace own_bo := own_bo.ext hk
  replace own_bm := own_bm.ext hk
  replace own_b8_11 := own_b8_11.ext hk
  replace kw := kw.x hk
  clear hR hk hg hP
  refine zn (hK28 _ _ ?_)
  refine wp_ret ?_
  refine ret1 rfl zz29 e6 ⟨_, rfl, kw, ?_⟩
  rw [h1, h3, h2]
  exact ⟨rfl, own_bo, own_bm⟩
 have hce : ce (getV x name) = 0 := by simpa using hc
 have h1 : tkE x e name ce = e := by rw [tkE, if_neg (by simp [hE]), if_neg (by simp [hg1]), hce, he0]
 have h2 : tkB x e name ce = true := by simp [tkB, hE, hg1, hce]
 have h3 : tkA x A e name ce = mset A name (mget A name + 1) := by rw [tkA, h2]; rfl
 refine wp_skip (hK23 _ _ ?_)
 refine zq fun K30 hK30 => ?_
 refine rg mixed y25 zz25 ?_
 refine .mb rfl e0 ?_
 refine .i (sp_nilP (hlc rfl)) ?_
 refine .i (fo 5 (hlc rfl) Try.underlying74 rfl sz72 rfl) ?_
 refine .i (lo1 (hlc rfl) own_bo trivial agg72 sz72 rfl) ?_
 refine .mb rfl e1 ?_
 refine .i (sp_lookup Try.underlying72 Try.underlying9 z3 (hlc rfl) (hlc rfl) own_bm trivial) ?_
 refine .i (sp_add (hlc rfl) Has.cst (i64_in (by omega))) ?_
 refine .dn fun a31 g W31 y31 zz31 hk hg hV hR hP => ?_
 obtain ⟨e48, -, e46, e45, -, -, -, -⟩ := hV
 replace e10 := ft hR e10
 replace D_cn := D_cn.ext hk
 replace D_ci := D_ci.ext hk
 replace e45 := e45.q
 replace e46 := e46.q
 replace e48 := e48.q
 replace own_bo := own_bo.ext hk
 replace own_bm := own_bm.ext hk
 replace own_b8_11 := own_b8_11.ext hk
 replace kw := kw.x hk
 clear hR hk hg hP
 refine tail_updM Try.underlying72 Try.underlying9 e45 e46 e48 own_bm (fun W32 hs own_bm => ?_)
 have own_bm : OwnM W32 bm (mset A name ((mget A name : Int) + (1 : Int))) := own_bm
 replace own_bo := own_store own_bo hs hne
 replace own_b8_11 := own_store own_b8_11 hs ne_bm_b8_11.symm
 replace D_cn := sa_store D_cn hs (by simp)
 replace D_ci := sa_store D_ci hs (by simp)
 replace kw := keeps_storeN kw hs (by simp)
 clear hs
 refine zn (hK30 _ _ ?_)
 refine zq fun K33 hK33 => ?_
 refine rg mixed y31 zz31 ?_
 refine .mb rfl e10 ?_
 refine .al rfl ?_
 refine .dn fun a34 g W34 y34 zz34 hk hg hV hR hP => ?_
 obtain ⟨e6, -, -⟩ := hV
 replace D_cn := D_cn.ext hk
 replace D_ci := D_ci.ext hk
 replace e6 := e6.q
 replace own_bo := own_bo.ext hk
 replace own_bm := own_bm.ext hk
 replace own_b8_11 := own_b8_11.ext hk
 replace kw := kw.x hk
 clear hR hk hg hP
 refine zn (hK33 _ _ ?_)
 refine wp_ret ?_
 refine ret1 rfl zz34 e6 ⟨_, rfl, kw, ?_⟩
 rw [h1, h3, h2]
 exact ⟨rfl, own_bo, own_bm⟩
set_option maxRecDepth 100000 in
theorem takeTD_ok (k : Nat) (n : Int) (t : ByteArray) (cn ci mv : Value) (e : Int) (hE : errK k e ≠ 0) (name : ByteArray) (fv : Value) (w : World) (bo : Nat) (own_bo : Own w bo [.int .u8 k, .int .i64 n, .string t, cn, ci, mv, .int .i64 e] 74) : Calls Try.prog 102 #[.pointer (some ⟨bo, 0, none⟩), .string name, fv] w (Ret w fun u _ => u = .string ⟨#[]⟩) := by
 refine enter Try.func102 rfl Try.ntmps102 (lbr rfl) fun a0 y0 zz0 harg => ?_
 have e0 : sl a0 0 = (.pointer (some ⟨bo, 0, none⟩)) := harg 0 (lbr rfl)
 have e1 : sl a0 1 = (.string (name)) := harg 1 (lbr rfl)
 have e2 : sl a0 2 = fv := harg 2 (lbr rfl)
 have kw := Keeps.refl All w
 clear harg
 refine zq fun K1 hK1 => ?_
 refine rg mixed y0 zz0 ?_
 refine .ac ?_
 refine .dn fun a2 g W2 y2 zz2 hk hg hV hR hP => ?_
 obtain ⟨-, -⟩ := hV
 replace e0 := ft hR e0
 replace e1 := ft hR e1
 replace e2 := ft hR e2
 replace own_bo := own_bo.ext hk
 replace kw := kw.x hk
 clear hR hk hg hP
 refine zn (hK1 _ _ ?_)
 refine zq fun K3 hK3 => ?_
 refine rg mixed y2 zz2 ?_
 refine .ac ?_
 refine .dn fun a4 g W4 y4 zz4 hk hg hV hR hP => ?_
 obtain ⟨e7, -⟩ := hV
 replace e0 := ft hR e0
 replace e1 := ft hR e1
 replace e2 := ft hR e2
 replace e7 := e7.q
 replace own_bo := own_bo.ext hk
 replace kw := kw.x hk
 clear hR hk hg hP
 refine zn (hK3 _ _ ?_)
 refine zq fun K5 hK5 => ?_
 refine zq fun K6 hK6 => ?_
 refine rg mixed y4 zz4 ?_
 refine .mb rfl e0 ?_
 refine .i (v := (.int .i64 (errK (k : Nat) e))) (sp_call1 (φ1 := Is (.pointer (some ⟨bo, 0, none⟩))) ent24 (hlc rfl) (fun g u1 W hk hgk h1 => by have h1 : u1 = _ := h1; subst u1; exact Err_ok _ _ _ _ _ _ _ W _ (own_bo.ext hk))) ?_
 refine .i (sp_neq (hlc rfl) Has.cst) ?_
 refine .dn fun a7 g W7 y7 zz7 hk hg hV hR hP => ?_
 obtain ⟨e14, -, -, -⟩ := hV
 replace e0 := ft hR e0
 replace e1 := ft hR e1
 replace e2 := ft hR e2
 replace e7 := ft hR e7
 replace e14 := e14.q
 replace own_bo := own_bo.ext hk
 replace kw := kw.x hk
 clear hR hk hg hP
 refine zn (hK6 _ _ ?_)
 refine zc e14 (fun hc => ?_) (fun hc => ?_)
 ·
  refine zq fun K8 hK8 => ?_
  refine rg mixed y7 zz7 ?_
  refine .mb rfl e7 ?_
  refine .al rfl ?_
  refine .dn fun a9 g W9 y9 zz9 hk hg hV hR hP => ?_
  obtain ⟨e6, -, -⟩ := hV
  replace e6 := e6.q
  replace own_bo := own_bo.ext hk
  replace kw := kw.x hk
  clear hR hk hg hP
  refine zn (hK8 _ _ ?_)
  refine wp_ret ?_
  refine ret1 rfl zz9 e6 ⟨_, rfl, kw, ?_⟩
  exact rfl
 exfalso
 exact hE (by simpa using hc)
set_option maxRecDepth 100000 in
theorem Text_ok (x : V) (A : As) (e : Int) (hA : AB 1000000 A) (hx : x.wt ≤ 1073741824) (hxt : x.t.size ≤ maxLen) (name : ByteArray) (w : World) (S : BSet) (cn ci : Value) (bo bm : Nat) (hS : ∀ b o, S b o → Cln o) (hM : ∀ b ∈ [bo, bm], ∀ o, ¬ S b o) (hne : bo ≠ bm) (hv : Rd w S (strsD x.ns) cn) (hu : Rd w S (valsD x.xs) ci) (own_bo : Own w bo [.int .u8 x.k, .int .i64 x.n, .string x.t, cn, ci, .map (some bm), .int .i64 (e)] 74) (own_bm : OwnM w bm A) : Calls Try.prog 43 #[.pointer (some ⟨bo, 0, none⟩), .string name] w (RetL w [bo, bm] fun u W => u = .string (if tkB x e name textE then textV (getV x name) else ⟨#[]⟩) ∧ Own W bo [.int .u8 x.k, .int .i64 x.n, .string x.t, cn, ci, .map (some bm), .int .i64 (tkE x e name textE)] 74 ∧ OwnM W bm (tkA x A e name textE)) := by
 obtain ⟨cna, cnc, ev, D_cn⟩ := rdS_out (rd_argM (M := [bo, bm]) hv hM)
 subst ev
 obtain ⟨cia, cic, ev, D_ci⟩ := rdVs_out (rd_argM (M := [bo, bm]) hu hM)
 subst ev
 refine enter Try.func43 rfl Try.ntmps43 (lbr rfl) fun a0 y0 zz0 harg => ?_
 have e0 : sl a0 0 = (.pointer (some ⟨bo, 0, none⟩)) := harg 0 (lbr rfl)
 have e1 : sl a0 1 = (.string (name)) := harg 1 (lbr rfl)
 have kw := Keeps.refl (fun k => k ∉ [bo, bm]) w
 clear harg
 refine zq fun K1 hK1 => ?_
 refine rg mixed y0 zz0 ?_
 refine .ac ?_
 refine .dn fun a2 g W2 y2 zz2 hk hg hV hR hP => ?_
 obtain ⟨-, -⟩ := hV
 replace e0 := ft hR e0
 replace e1 := ft hR e1
 replace D_cn := D_cn.ext hk
 replace D_ci := D_ci.ext hk
 replace own_bo := own_bo.ext hk
 replace own_bm := own_bm.ext hk
 replace kw := kw.x hk
 clear hR hk hg hP
 refine zn (hK1 _ _ ?_)
 refine zq fun K3 hK3 => ?_
 refine wp_reg (fun k => k ∉ [bo, bm]) (Ψ := fun W => Own W bo [(.int .u8 (x.k)), (.int .i64 (x.n)), (.string (x.t)), (.slice cna (x.ns.length) cnc), (.slice cia (x.xs.length) cic), (.map (some bm)), (.int .i64 (e))] 74 ∧ OwnM W bm (A)) mixed y2 zz2 (stE_and stE_own stE_ownM) ⟨own_bo, own_bm⟩ ?_
 refine .mb rfl e0 ?_
 refine .mb rfl e1 ?_
 refine .callL3 (φ1 := Is (.pointer (some ⟨bo, 0, none⟩))) (φ2 := Is (.string (name))) (φ3 := Is (.func (.func 103) #[] #[])) (φ := Is (.string (if tkB x e name textE then textV (getV x name) else ⟨#[]⟩))) (Ψ' := fun W => Own W bo [(.int .u8 (x.k)), (.int .i64 (x.n)), (.string (x.t)), (.slice cna (x.ns.length) cnc), (.slice cia (x.xs.length) cic), (.map (some bm)), (.int .i64 (tkE x e name textE))] 74 ∧ OwnM W bm (tkA x A e name textE)) ent102 (hlc rfl) (hlc rfl) Has.fn (st_is _) (stE_and stE_own stE_ownM) (fun g u1 u2 u3 W hk hg h1 h2 h3 hP => by have h1 : u1 = _ := h1; subst u1; have h2 : u2 = _ := h2; subst u2; have h3 : u3 = _ := h3; subst u3; exact (takeT_ok (x) (A) (e) hA hx hxt name 103 #[] textE textV W _ _ _ _ _ (sa_cln hS) (sa_notin (by simp)) hne (sa_keepL D_cn hk (by simp)) (sa_keepL D_ci hk (by simp)) hP.1 hP.2 ent103 (fun W2 hk2 y v hy hv2 => text1_ok y (by obtain ⟨_, _, _, _, _, h, _⟩ := rdV_out hv2; exact h) W2 _ v hv2))) ?_
 refine .al rfl ?_
 refine .dn fun a4 g W4 y4 zz4 hk hg hV hR hP => ?_
 obtain ⟨e4, -, -, -, -⟩ := hV
 replace e4 := e4.q
 replace D_cn := sa_keepL D_cn hk (by simp)
 replace D_ci := sa_keepL D_ci hk (by simp)
 obtain ⟨own_bo, own_bm⟩ := hP
 replace own_bo : Own W4 bo [(.int .u8 (x.k)), (.int .i64 (x.n)), (.string (x.t)), (.slice cna (x.ns.length) cnc), (.slice cia (x.xs.length) cic), (.map (some bm)), (.int .i64 (tkE x e name textE))] 74 := own_bo
 replace own_bm : OwnM W4 bm (tkA x A e name textE) := own_bm
 replace kw := keeps_L kw hk (in_cons (.inr (by simp)) (in_cons (.inr (by simp)) in_nil))
 clear hR hk hg
 refine zn (hK3 _ _ ?_)
 refine wp_ret ?_
 refine ret1 rfl zz4 e4 ⟨_, rfl, kw, ?_⟩
 exact ⟨rfl, own_bo, own_bm⟩
set_option maxRecDepth 100000 in
theorem TextD_ok (k : Nat) (n : Int) (t : ByteArray) (cn ci mv : Value) (e : Int) (hE : errK k e ≠ 0) (name : ByteArray) (w : World) (bo : Nat) (own_bo : Own w bo [.int .u8 k, .int .i64 n, .string t, cn, ci, mv, .int .i64 e] 74) : Calls Try.prog 43 #[.pointer (some ⟨bo, 0, none⟩), .string name] w (Ret w fun u _ => u = .string ⟨#[]⟩) := by
 refine enter Try.func43 rfl Try.ntmps43 (lbr rfl) fun a0 y0 zz0 harg => ?_
 have e0 : sl a0 0 = (.pointer (some ⟨bo, 0, none⟩)) := harg 0 (lbr rfl)
 have e1 : sl a0 1 = (.string (name)) := harg 1 (lbr rfl)
 have kw := Keeps.refl All w
 clear harg
 refine zq fun K1 hK1 => ?_
 refine rg mixed y0 zz0 ?_
 refine .ac ?_
 refine .dn fun a2 g W2 y2 zz2 hk hg hV hR hP => ?_
 obtain ⟨-, -⟩ := hV
 replace e0 := ft hR e0
 replace e1 := ft hR e1
 replace own_bo := own_bo.ext hk
 replace kw := kw.x hk
 clear hR hk hg hP
 refine zn (hK1 _ _ ?_)
 refine zq fun K3 hK3 => ?_
 refine rg mixed y2 zz2 ?_
 refine .mb rfl e0 ?_
 refine .mb rfl e1 ?_
 refine .i (v := (.string (⟨#[]⟩))) (sp_call3 (φ1 := Is (.pointer (some ⟨bo, 0, none⟩))) (φ2 := Is (.string (name))) (φ3 := Is (.func (.func 103) #[] #[])) ent102 (hlc rfl) (hlc rfl) Has.fn (fun g u1 u2 u3 W hk hgk h1 h2 h3 => by have h1 : u1 = _ := h1; subst u1; have h2 : u2 = _ := h2; subst u2; have h3 : u3 = _ := h3; subst u3; exact takeTD_ok _ _ _ _ _ _ _ hE _ _ W _ (own_bo.ext hk))) ?_
 refine .al rfl ?_
 refine .dn fun a4 g W4 y4 zz4 hk hg hV hR hP => ?_
 obtain ⟨e4, -, -, -, -⟩ := hV
 replace e4 := e4.q
 replace own_bo := own_bo.ext hk
 replace kw := kw.x hk
 clear hR hk hg hP
 refine zn (hK3 _ _ ?_)
 refine wp_ret ?_
 refine ret1 rfl zz4 e4 ⟨_, rfl, kw, ?_⟩
 exact rfl
set_option maxRecDepth 100000 in
theorem bool1_ok (x : V) (hxt : x.t.size ≤ maxLen) (w : World) (S : BSet) (v : Value) (hv : Rd w S x.d v) : Calls Try.prog 107 #[v] w (Ret w fun r _ => r = .tuple #[.bool (boolV x), .int .i64 (boolE x)]) := by
 obtain ⟨cn0a, cn0c, ci0a, ci0c, ev, ht0, D_cn0, D_ci0⟩ := rdV_out (rd_arg hv)
 subst ev
 refine enter Try.func107 rfl Try.ntmps107 (lbr rfl) fun a0 y0 zz0 harg => ?_
 have e0 : sl a0 0 = (.agg #[(.int .u8 (x.k)), (.int .i64 (x.n)), (.string (x.t)), (.slice cn0a (x.ns.length) cn0c), (.slice ci0a (x.xs.length) ci0c)]) := harg 0 (lbr rfl)
 have kw := Keeps.refl All w
 clear harg
 refine zq fun K1 hK1 => ?_
 refine rg mixed y0 zz0 ?_
 refine .boxOp (v := (.agg #[(.int .u8 (x.k)), (.int .i64 (x.n)), (.string (x.t)), (.slice cn0a (x.ns.length) cn0c), (.slice ci0a (x.xs.length) ci0c)])) (hbs rfl e0) ?_
 refine .ac ?_
 refine .ac ?_
 refine .dn fun a2 g W2 y2 zz2 hk hg hV hR hP => ?_
 obtain ⟨-, -, ⟨b1_2, e1, hb1, own_b1_2⟩, -⟩ := hV
 have lo_b1_2 : w.heap.size ≤ b1_2 := Nat.le_trans kw.size (hg.lo _ _ hb1)
 have own_b1_2 : Own W2 b1_2 [(.int .u8 (x.k)), (.int .i64 (x.n)), (.string (x.t)), (.slice cn0a (x.ns.length) cn0c), (.slice ci0a (x.xs.length) ci0c)] 33 := own_b1_2
 replace D_cn0 := sa_more D_cn0 hk [b1_2] (in_cons (hg.lo _ _ hb1) in_nil)
 replace D_ci0 := sa_more D_ci0 hk [b1_2] (in_cons (hg.lo _ _ hb1) in_nil)
 replace kw := kw.x hk
 clear hR hk hg hP hb1
 refine zn (hK1 _ _ ?_)
 refine zq fun K3 hK3 => ?_
 refine zq fun K4 hK4 => ?_
 refine rg mixed y2 zz2 ?_
 refine .i (fo 0 (hbs rfl e1) Try.underlying33 rfl sz5 rfl) ?_
 refine .i (lo1 (hlc rfl) own_b1_2 trivial agg5 sz5 rfl) ?_
 refine .i (sp_neq (hlc rfl) Has.cst) ?_
 refine .dn fun a5 g W5 y5 zz5 hk hg hV hR hP => ?_
 obtain ⟨e6, -, -, -⟩ := hV
 replace e1 := ft hR e1
 replace D_cn0 := D_cn0.ext hk
 replace D_ci0 := D_ci0.ext hk
 replace e6 := e6.q
 replace own_b1_2 := own_b1_2.ext hk
 replace kw := kw.x hk
 clear hR hk hg hP
 refine zn (hK4 _ _ ?_)
 refine zc e6 (fun hc => ?_) (fun hc => ?_)
 ·
  have hk : x.k ≠ 1 := by simp at hc; omega
  have hf : boolE x = 10 := by rw [boolE, if_pos hk]
  have hv2 : boolV x = false := by rw [boolV, hf]; rfl
  refine zq fun K6 hK6 => ?_
  refine rg mixed y5 zz5 ?_
  refine .ac ?_
  refine .ac ?_
  refine .dn fun a7 g W7 y7 zz7 hk hg hV hR hP => ?_
  obtain ⟨e3, e2, -⟩ := hV
  replace D_cn0 := D_cn0.ext hk
  replace D_ci0 := D_ci0.ext hk
  replace e2 := e2.q
  replace e3 := e3.q
  replace own_b1_2 := own_b1_2.ext hk
  replace kw := kw.x hk
  clear hR hk hg hP
  refine zn (hK6 _ _ ?_)
  refine wp_ret ?_
  refine ret2 rfl zz7 e2 e3 ⟨_, rfl, kw, ?_⟩
  rw [hf, hv2]
 have hk : ¬ x.k ≠ 1 := by simp at hc; omega
 have hf : boolE x = 0 := by rw [boolE, if_neg hk]
 have hv2 : boolV x = (x.n == 1) := by rw [boolV, if_pos hf]
 refine wp_skip (hK3 _ _ ?_)
 refine zq fun K8 hK8 => ?_
 refine rg mixed y5 zz5 ?_
 refine .i (fo 1 (hbs rfl e1) Try.underlying33 rfl sz2 rfl) ?_
 refine .i (lo1 (hlc rfl) own_b1_2 trivial agg2 sz2 rfl) ?_
 refine .i (sp_eql (hlc rfl) Has.cst) ?_
 refine .al rfl ?_
 refine .ac ?_
 refine .dn fun a9 g W9 y9 zz9 hk hg hV hR hP => ?_
 obtain ⟨e3, e2, -, -, -, -⟩ := hV
 replace D_cn0 := D_cn0.ext hk
 replace D_ci0 := D_ci0.ext hk
 replace e2 := e2.q
 replace e3 := e3.q
 replace own_b1_2 := own_b1_2.ext hk
 replace kw := kw.x hk
 clear hR hk hg hP
 refine zn (hK8 _ _ ?_)
 refine wp_ret ?_
 refine ret2 rfl zz9 e2 e3 ⟨_, rfl, kw, ?_⟩
 rw [hf, hv2]
set_option maxRecDepth 100000 in
theorem takeB_ok (x : V) (A : As) (e : Int) (hA : AB 1000000 A) (hx : x.wt ≤ 1073741824) (hxt : x.t.size ≤ maxLen) (name : ByteArray) (fi : FuncId) (cb : Array Value) (ce : V → Int) (fv : V → Bool) (w : World) (S : BSet) (cn ci : Value) (bo bm : Nat) (hS : ∀ b o, S b o → Cln o) (hM : ∀ b ∈ [bo, bm], ∀ o, ¬ S b o) (hne : bo ≠ bm) (hv : Rd w S (strsD x.ns) cn) (hu : Rd w S (valsD x.xs) ci) (own_bo : Own w bo [.int .u8 x.k, .int .i64 x.n, .string x.t, cn, ci, .map (some bm), .int .i64 (e)] 74) (own_bm : OwnM w bm A) (ef : Enters Try.prog fi) (hf : ∀ W, Keeps (fun k => k ∉ [bo, bm]) w W → ∀ (y : V) (v : Value), y.wt ≤ 1073741824 → Rd W (Fr w) y.d v → Calls Try.prog fi (#[v] ++ cb) W (Ret W fun r _ => r = .tuple #[.bool (fv y), .int .i64 (ce y)])) : Calls Try.prog 106 #[.pointer (some ⟨bo, 0, none⟩), .string name, .func (.func fi) #[] cb] w (RetL w [bo, bm] fun u W => u = .bool (if tkB x e name ce then fv (getV x name) else false) ∧ Own W bo [.int .u8 x.k, .int .i64 x.n, .string x.t, cn, ci, .map (some bm), .int .i64 (tkE x e name ce)] 74 ∧ OwnM W bm (tkA x A e name ce)) := by
 have hwx := wt_eq x
 have hwl := wts_len x.xs
 have hwn := wtN_len x.ns
 obtain ⟨cna, cnc, ev, D_cn⟩ := rdS_out (rd_argM (M := [bo, bm]) hv hM)
 subst ev
 obtain ⟨cia, cic, ev, D_ci⟩ := rdVs_out (rd_argM (M := [bo, bm]) hu hM)
 subst ev
 refine enter Try.func106 rfl Try.ntmps106 (lbr rfl) fun a0 y0 zz0 harg => ?_
 have e0 : sl a0 0 = (.pointer (some ⟨bo, 0, none⟩)) := harg 0 (lbr rfl)
 have e1 : sl a0 1 = (.string (name)) := harg 1 (lbr rfl)
 have e2 : sl a0 2 = (.func (.func fi) #[] cb) := harg 2 (lbr rfl)
 have kw := Keeps.refl (fun k => k ∉ [bo, bm]) w
 clear harg
 refine zq fun K1 hK1 => ?_
 refine rg mixed y0 zz0 ?_
 refine .ac ?_
 refine .dn fun a2 g W2 y2 zz2 hk hg hV hR hP => ?_
 obtain ⟨-, -⟩ := hV
 replace e0 := ft hR e0
 replace e1 := ft hR e1
 replace e2 := ft hR e2
 replace D_cn := D_cn.ext hk
 replace D_ci := D_ci.ext hk
 replace own_bo := own_bo.ext hk
 replace own_bm := own_bm.ext hk
 replace kw := kw.x hk
 clear hR hk hg hP
 refine zn (hK1 _ _ ?_)
 refine zq fun K3 hK3 => ?_
 refine rg mixed y2 zz2 ?_
 refine .ac ?_
 refine .dn fun a4 g W4 y4 zz4 hk hg hV hR hP => ?_
 obtain ⟨e7, -⟩ := hV
 replace e0 := ft hR e0
 replace e1 := ft hR e1
 replace e2 := ft hR e2
 replace D_cn := D_cn.ext hk
 replace D_ci := D_ci.ext hk
 replace e7 := e7.q
 replace own_bo := own_bo.ext hk
 replace own_bm := own_bm.ext hk
 replace kw := kw.x hk
 clear hR hk hg hP
 refine zn (hK3 _ _ ?_)
 refine zq fun K5 hK5 => ?_
 refine zq fun K6 hK6 => ?_
 refine rg mixed y4 zz4 ?_
 refine .mb rfl e0 ?_
 refine .i (v := (.int .i64 (errK x.k e))) (sp_call1 (φ1 := Is (.pointer (some ⟨bo, 0, none⟩))) ent24 (hlc rfl) (fun g u1 W hk hgk h1 => by have h1 : u1 = _ := h1; subst u1; exact Err_ok _ _ _ _ _ _ _ W _ (own_bo.ext hk))) ?_
 refine .i (sp_neq (hlc rfl) Has.cst) ?_
 refine .dn fun a7 g W7 y7 zz7 hk hg hV hR hP => ?_
 obtain ⟨e14, -, -, -⟩ := hV
 replace e0 := ft hR e0
 replace e1 := ft hR e1
 replace e2 := ft hR e2
 replace e7 := ft hR e7
 replace D_cn := D_cn.ext hk
 replace D_ci := D_ci.ext hk
 replace e14 := e14.q
 replace own_bo := own_bo.ext hk
 replace own_bm := own_bm.ext hk
 replace kw := kw.x hk
 clear hR hk hg hP
 refine zn (hK6 _ _ ?_)
 refine zc e14 (fun hc => ?_) (fun hc => ?_)
 ·
  have hE : errK x.k e ≠ 0 := by simpa using hc
  have h1 : tkE x e name ce = e := by rw [tkE, if_pos hE]
  have h2 : tkB x e name ce = false := by simp [tkB, hE]
  have h3 : tkA x A e name ce = A := by rw [tkA, h2]; rfl
  refine zq fun K8 hK8 => ?_
  refine rg mixed y7 zz7 ?_
  refine .mb rfl e7 ?_
  refine .al rfl ?_
  refine .dn fun a9 g W9 y9 zz9 hk hg hV hR hP => ?_
  obtain ⟨e6, -, -⟩ := hV
  replace D_cn := D_cn.ext hk
  replace D_ci := D_ci.ext hk
  replace e6 := e6.q
  replace own_bo := own_bo.ext hk
  replace own_bm := own_bm.ext hk
  replace kw := kw.x hk
  clear hR hk hg hP
  refine zn (hK8 _ _ ?_)
  refine wp_ret ?_
  refine ret1 rfl zz9 e6 ⟨_, rfl, kw, ?_⟩
  rw [h1, h3, h2]
  exact ⟨rfl, own_bo, own_bm⟩
 have hE : errK x.k e = 0 := by simpa using hc
 have he0 := (errK_zero hE).1
 refine wp_skip (hK5 _ _ ?_)
 refine zq fun K10 hK10 => ?_
 refine rg mixed y7 zz7 ?_
 refine .mb rfl e0 ?_
 refine .i (sp_nilP (hlc rfl)) ?_
 refine .i (fo 0 (hlc rfl) Try.underlying74 rfl sz33 rfl) ?_
 refine .i (v := (.agg #[(.int .u8 (x.k)), (.int .i64 (x.n)), (.string (x.t)), (.slice cna (x.ns.length) cnc), (.slice cia (x.xs.length) cic)])) (loA (hlc rfl) own_bo trivial agg33 sz33 rfl rfl) ?_
 refine .mb rfl e1 ?_
 refine .op (φ := IsT (IsD (Fr W7) (V.d (getV (x) name))) (Is (.bool (getB (x) name)))) (st_t (st_d sub_all) (st_is _)) (sp_call2 (φ1 := IsD (SA w S [bo, bm]) (V.d (x))) (φ2 := Is (.string (name))) ent101 ((hlc rfl).dat (rdV_in (x := x) hxt D_cn D_ci : Rd W7 (SA w S [bo, bm]) (V.d (x)) _) sub_all) (hlc rfl) (fun g u1 u2 W hk hgk h1 h2 => by have h2 : u2 = _ := h2; subst u2; exact (Get_ok (x) (name) (by omega) W _ _ (fun b o h => sa_cln hS b o h.1) h1).mono (fun _ _ ⟨v, h1, h2, r1, h3, h4⟩ => ⟨v, h1, h2, r1, _, h3, fresh_d hk hgk h4, rfl⟩))) ?_
 refine .op (φ := IsT (IsD (Fr W7) (V.d (getV (x) name))) (Is (.bool (getB (x) name)))) (st_t (st_d sub_all) (st_is _)) (sp_move (hlc rfl)) ?_
 refine .da (X := Fr W7) (e := V.d (getV (x) name)) (sp_ext2 (hlc rfl) rfl) ?_
 refine .i (v := (.bool (getB (x) name))) (sp_ext2' (hlc rfl) rfl) ?_
 refine .alloc z33 ?_
 refine .dn fun a11 g W11 y11 zz11 hk hg hV hR hP => ?_
 obtain ⟨⟨b8_11, e8, hb8, own_b8_11⟩, e24, e23, -, -, -, -, -, -, -, -⟩ := hV
 have lo_b8_11 : w.heap.size ≤ b8_11 := Nat.le_trans kw.size (hg.lo _ _ hb8)
 have ne_bo_b8_11 : bo ≠ b8_11 := Nat.ne_of_lt (Nat.lt_of_lt_of_le own_bo.lt (hg.lo _ _ hb8))
 have ne_bm_b8_11 : bm ≠ b8_11 := Nat.ne_of_lt (Nat.lt_of_lt_of_le own_bm.lt (hg.lo _ _ hb8))
 have own_b8_11 : Own W11 b8_11 z5C 33 := own_b8_11
 replace e0 := ft hR e0
 replace e1 := ft hR e1
 replace e2 := ft hR e2
 replace e7 := ft hR e7
 replace D_cn := sa_more D_cn hk [b8_11] (in_cons (hg.lo _ _ hb8) in_nil)
 replace D_ci := sa_more D_ci hk [b8_11] (in_cons (hg.lo _ _ hb8) in_nil)
 obtain ⟨v23_11, ev⟩ : ∃ v, sl a11 23 = v := ⟨_, rfl⟩
 rw [ev] at e23
 have D_v23_11 : Rd W11 (SF w [b8_11, bo, bm]) (V.d (getV (x) name)) v23_11 := fr_end (M := [bo, bm]) e23 kw [b8_11] (in_cons ⟨_, hb8⟩ in_nil) (in_cons own_bo.lt (in_cons own_bm.lt in_nil))
 replace e23 := ev; clear ev
 obtain ⟨cn23_11a, cn23_11c, ci23_11a, ci23_11c, ev, ht_v23_11, D_cn23_11, D_ci23_11⟩ := rdV_out D_v23_11
 subst ev; clear D_v23_11
 replace e24 := e24.q
 replace own_bo := own_bo.ext hk
 replace own_bm := own_bm.ext hk
 replace kw := kw.x hk
 clear hR hk hg hP hb8
 refine tail_store e8 e23 sz33 rfl own_b8_11 (lbr rfl) (all_cons rfl (all_cons rfl (all_cons rfl (all_cons rfl (all_cons rfl all_nil))))) (fun W12 hs own_b8_11 => ?_)
 have own_b8_11 : Own W12 b8_11 [(.int .u8 ((getV (x) name).k)), (.int .i64 ((getV (x) name).n)), (.string ((getV (x) name).t)), (.slice cn23_11a (((getV (x) name).ns).length) cn23_11c), (.slice ci23_11a (((getV (x) name).xs).length) ci23_11c)] 33 := own_b8_11
 replace own_bo := own_store own_bo hs ne_bo_b8_11
 replace own_bm := ownM_store own_bm hs ne_bm_b8_11
 replace D_cn := sa_store D_cn hs (by simp)
 replace D_ci := sa_store D_ci hs (by simp)
 replace D_cn23_11 := sf_store D_cn23_11 hs (by simp)
 replace D_ci23_11 := sf_store D_ci23_11 hs (by simp)
 replace kw := keeps_store kw hs lo_b8_11
 clear hs
 refine tail_assign (v := (.bool (getB (x) name))) e24 (by rw [y11]; exact Nat.le_of_ble_eq_true rfl) (fun a13 y13 zz13 e9 hr => ?_)
 replace y13 := y13.trans y11; replace zz13 := zz13.trans zz11
 replace e0 := (hr 0 (by decide)).trans e0
 replace e1 := (hr 1 (by decide)).trans e1
 replace e2 := (hr 2 (by decide)).trans e2
 replace e7 := (hr 7 (by decide)).trans e7
 replace e8 := (hr 8 (by decide)).trans e8
 replace e23 := (hr 23 (by decide)).trans e23
 replace e24 := (hr 24 (by decide)).trans e24
 clear hr
 refine zn (hK10 _ _ ?_)
 refine zq fun K14 hK14 => ?_
 refine zq fun K15 hK15 => ?_
 refine rg mixed y13 zz13 ?_
 refine .mb rfl e9 ?_
 refine .i (sp_not (hlc rfl)) ?_
 refine .dn fun a16 g W16 y16 zz16 hk hg hV hR hP => ?_
 obtain ⟨e26, -, -⟩ := hV
 replace e0 := ft hR e0
 replace e1 := ft hR e1
 replace e2 := ft hR e2
 replace e7 := ft hR e7
 replace e8 := ft hR e8
 replace D_cn := D_cn.ext hk
 replace D_ci := D_ci.ext hk
 replace D_cn23_11 := D_cn23_11.ext hk
 replace D_ci23_11 := D_ci23_11.ext hk
 replace e26 := e26.q
 replace own_bo := own_bo.ext hk
 replace own_bm := own_bm.ext hk
 replace own_b8_11 := own_b8_11.ext hk
 replace kw := kw.x hk
 clear hR hk hg hP
 refine zn (hK15 _ _ ?_)
 refine zc e26 (fun hc => ?_) (fun hc => ?_)
 ·
  have hg0 : getB x name = false := by simpa using hc
  have h1 : tkE x e name ce = failK x.k e 6 := by rw [tkE, if_neg (by simp [hE]), if_pos hg0, failK, if_pos hE]
  have h2 : tkB x e name ce = false := by simp [tkB, hg0]
  have h3 : tkA x A e name ce = A := by rw [tkA, h2]; rfl
  refine zq fun K17 hK17 => ?_
  refine wp_reg (fun k => k ∉ [bo]) (Ψ := fun W => Own W bo [(.int .u8 (x.k)), (.int .i64 (x.n)), (.string (x.t)), (.slice cna (x.ns.length) cnc), (.slice cia (x.xs.length) cic), (.map (some bm)), (.int .i64 (e))] 74) mixed y16 zz16 stE_own own_bo ?_
  refine .mb rfl e0 ?_
  refine .callL2 (φ1 := Is (.pointer (some ⟨bo, 0, none⟩))) (φ2 := Is (.int .i64 (6))) (φ := Is (.tuple #[])) (Ψ' := fun W => Own W bo [(.int .u8 (x.k)), (.int .i64 (x.n)), (.string (x.t)), (.slice cna (x.ns.length) cnc), (.slice cia (x.xs.length) cic), (.map (some bm)), (.int .i64 (failK x.k e 6))] 74) ent22 (hlc rfl) Has.cst (st_is _) stE_own (fun g u1 u2 W hk hg h1 h2 hP => by have h1 : u1 = _ := h1; subst u1; have h2 : u2 = _ := h2; subst u2; exact (Fail_ok _ _ _ _ _ _ _ (6) W _ hP)) ?_
  refine .dn fun a18 g W18 y18 zz18 hk hg hV hR hP => ?_
  obtain ⟨-, -, -⟩ := hV
  replace e7 := ft hR e7
  replace D_cn := sa_keepL D_cn hk (by simp)
  replace D_ci := sa_keepL D_ci hk (by simp)
  replace D_cn23_11 := sf_keepL D_cn23_11 hk (by simp)
  replace D_ci23_11 := sf_keepL D_ci23_11 hk (by simp)
  replace own_bm := ownM_keepL own_bm hk (by simp [hne.symm])
  replace own_b8_11 := own_keepL own_b8_11 hk (by simp [ne_bo_b8_11.symm])
  have own_bo := hP
  replace own_bo : Own W18 bo [(.int .u8 (x.k)), (.int .i64 (x.n)), (.string (x.t)), (.slice cna (x.ns.length) cnc), (.slice cia (x.xs.length) cic), (.map (some bm)), (.int .i64 (failK x.k e 6))] 74 := own_bo
  replace kw := keeps_L kw hk (in_cons (.inr (by simp)) in_nil)
  clear hR hk hg hP
  refine zn (hK17 _ _ ?_)
  refine zq fun K19 hK19 => ?_
  refine rg mixed y18 zz18 ?_
  refine .mb rfl e7 ?_
  refine .al rfl ?_
  refine .dn fun a20 g W20 y20 zz20 hk hg hV hR hP => ?_
  obtain ⟨e6, -, -⟩ := hV
  replace D_cn := D_cn.ext hk
  replace D_ci := D_ci.ext hk
  replace e6 := e6.q
  replace own_bo := own_bo.ext hk
  replace own_bm := own_bm.ext hk
  replace own_b8_11 := own_b8_11.ext hk
  replace kw := kw.x hk
  clear hR hk hg hP
  refine zn (hK19 _ _ ?_)
  refine wp_ret ?_
  refine ret1 rfl zz20 e6 ⟨_, rfl, kw, ?_⟩
  rw [h1, h3, h2]
  exact ⟨rfl, own_bo, own_bm⟩
 have hg1 : getB x name = true := by simpa using hc
 have hAn := hA name
 have hwg := Nat.le_trans (getV_wt x name) hx
 refine wp_skip (hK14 _ _ ?_)
 refine zq fun K21 hK21 => ?_
 refine rg mixed y16 zz16 ?_
 refine .mb rfl e2 ?_
 refine .i (v := (.agg #[(.int .u8 ((getV (x) name).k)), (.int .i64 ((getV (x) name).n)), (.string ((getV (x) name).t)), (.slice cn23_11a (((getV (x) name).ns).length) cn23_11c), (.slice ci23_11a (((getV (x) name).xs).length) ci23_11c)])) (loA (hbs rfl e8) own_b8_11 trivial agg33 sz33 rfl rfl) ?_
 refine .i (v := (.tuple #[(.bool (fv (getV x name))), (.int .i64 (ce (getV x name)))])) (sp_callF1 ef (hlc rfl) (hlc rfl) (fun g W hk hgk => hf W (kw.trans (.of_ext hk)) _ _ hwg (sf_fr (Rd.ext (rdV_in (x := (getV (x) name)) ht_v23_11 D_cn23_11 D_ci23_11 : Rd W16 (SF w [b8_11, bo, bm]) (V.d ((getV (x) name))) _) hk)))) ?_
 refine .i (sp_move (hlc rfl)) ?_
 refine .i (v := (.bool (fv (getV x name)))) (sp_extT (hlc rfl) rfl) ?_
 refine .i (v := (.int .i64 (ce (getV x name)))) (sp_extT (hlc rfl) rfl) ?_
 refine .al rfl ?_
 refine .al rfl ?_
 refine .dn fun a22 g W22 y22 zz22 hk hg hV hR hP => ?_
 obtain ⟨e11, e10, -, -, -, -, -, -, -⟩ := hV
 replace e0 := ft hR e0
 replace e1 := ft hR e1
 replace e7 := ft hR e7
 replace D_cn := D_cn.ext hk
 replace D_ci := D_ci.ext hk
 replace D_cn23_11 := D_cn23_11.ext hk
 replace D_ci23_11 := D_ci23_11.ext hk
 replace e10 := e10.q
 replace e11 := e11.q
 replace own_bo := own_bo.ext hk
 replace own_bm := own_bm.ext hk
 replace own_b8_11 := own_b8_11.ext hk
 replace kw := kw.x hk
 clear hR hk hg hP
 refine zn (hK21 _ _ ?_)
 refine zq fun K23 hK23 => ?_
 refine zq fun K24 hK24 => ?_
 refine rg mixed y22 zz22 ?_
 refine .mb rfl e11 ?_
 refine .i (sp_neq (hlc rfl) Has.cst) ?_
 refine .dn fun a25 g W25 y25 zz25 hk hg hV hR hP => ?_
 obtain ⟨e37, -, -⟩ := hV
 replace e0 := ft hR e0
 replace e1 := ft hR e1
 replace e7 := ft hR e7
 replace e10 := ft hR e10
 replace e11 := ft hR e11
 replace D_cn := D_cn.ext hk
 replace D_ci := D_ci.ext hk
 replace e37 := e37.q
 replace own_bo := own_bo.ext hk
 replace own_bm := own_bm.ext hk
 replace own_b8_11 := own_b8_11.ext hk
 replace kw := kw.x hk
 clear hR hk hg hP
 refine zn (hK24 _ _ ?_)
 refine zc e37 (fun hc => ?_) (fun hc => ?_)
 ·
  have hce : ce (getV x name) ≠ 0 := by simpa using hc
  have h1 : tkE x e name ce = failK x.k e (ce (getV x name)) := by rw [tkE, if_neg (by simp [hE]), if_neg (by simp [hg1]), failK, if_pos hE]
  have h2 : tkB x e name ce = false := by simp [tkB, hce]
  have h3 : tkA x A e name ce = A := by rw [tkA, h2]; rfl
  refine zq fun K26 hK26 => ?_
  refine wp_reg (fun k => k ∉ [bo]) (Ψ := fun W => Own W bo [(.int .u8 (x.k)), (.int .i64 (x.n)), (.string (x.t)), (.slice cna (x.ns.length) cnc), (.slice cia (x.xs.length) cic), (.map (some bm)), (.int .i64 (e))] 74) mixed y25 zz25 stE_own own_bo ?_
  refine .mb rfl e0 ?_
  refine .mb rfl e11 ?_
  refine .callL2 (φ1 := Is (.pointer (some ⟨bo, 0, none⟩))) (φ2 := Is (.int .i64 (ce (getV x name)))) (φ := Is (.tuple #[])) (Ψ' := fun W => Own W bo [(.int .u8 (x.k)), (.int .i64 (x.n)), (.string (x.t)), (.slice cna (x.ns.length) cnc), (.slice cia (x.xs.length) cic), (.map (some bm)), (.int .i64 (failK x.k e (ce (getV x name))))] 74) ent22 (hlc rfl) (hlc rfl) (st_is _) stE_own (fun g u1 u2 W hk hg h1 h2 hP => by have h1 : u1 = _ := h1; subst u1; have h2 : u2 = _ := h2; subst u2; exact (Fail_ok _ _ _ _ _ _ _ (ce (getV x name)) W _ hP)) ?_
  refine .dn fun a27 g W27 y27 zz27 hk hg hV hR hP => ?_
  obtain ⟨-, -, -, -⟩ := hV
  replace e7 := ft hR e7
  replace D_cn := sa_keepL D_cn hk (by simp)
  replace D_ci := sa_keepL D_ci hk (by simp)
  replace own_bm := ownM_keepL own_bm hk (by simp [hne.symm])
  replace own_b8_11 := own_keepL own_b8_11 hk (by simp [ne_bo_b8_11.symm])
  have own_bo := hP
  replace own_bo : Own W27 bo [(.int .u8 (x.k)), (.int .i64 (x.n)), (.string (x.t)), (.slice cna (x.ns.length) cnc), (.slice cia (x.xs.length) cic), (.map (some bm)), (.int .i64 (failK x.k e (ce (getV x name))))] 74 := own_bo
  replace kw := keeps_L kw hk (in_cons (.inr (by simp)) in_nil)
  clear hR hk hg hP
  refine zn (hK26 _ _ ?_)
  refine zq fun K28 hK28 => ?_
  refine rg mixed y27 zz27 ?_
  refine .mb rfl e7 ?_
  refine .al rfl ?_
  refine .dn fun a29 g W29 y29 zz29 hk hg hV hR hP => ?_
  obtain ⟨e6, -, -⟩ := hV
  replace D_cn := D_cn.ext hk
  replace D_ci := D_ci.ext hk
  replace e6 := e6.q
  replace own_bo := own_bo.ext hk
  replace own_bm := own_bm.ext hk
  replace own_b8_11 := own_b8_11.ext hk
  replace kw := kw.x hk
  clear hR hk hg hP
  refine zn (hK28 _ _ ?_)
  refine wp_ret ?_
  refine ret1 rfl zz29 e6 ⟨_, rfl, kw, ?_⟩
  rw [h1, h3, h2]
  exact ⟨rfl, own_bo, own_bm⟩
 have hce : ce (getV x name) = 0 := by simpa using hc
 have h1 : tkE x e name ce = e := by rw [tkE, if_neg (by simp [hE]), if_neg (by simp [hg1]), hce, he0]
 have h2 : tkB x e name ce = true := by simp [tkB, hE, hg1, hce]
 have h3 : tkA x A e name ce = mset A name (mget A name + 1) := by rw [tkA, h2]; rfl
 refine wp_skip (hK23 _ _ ?_)
 refine zq fun K30 hK30 => ?_
 refine rg mixed y25 zz25 ?_
 refine .mb rfl e0 ?_
 refine .i (sp_nilP (hlc rfl)) ?_
 refine .i (fo 5 (hlc rfl) Try.underlying74 rfl sz72 rfl) ?_
 refine .i (lo1 (hlc rfl) own_bo trivial agg72 sz72 rfl) ?_
 refine .mb rfl e1 ?_
 refine .i (sp_lookup Try.underlying72 Try.underlying9 z3 (hlc rfl) (hlc rfl) own_bm trivial) ?_
 refine .i (sp_add (hlc rfl) Has.cst (i64_in (by omega))) ?_
 refine .dn fun a31 g W31 y31 zz31 hk hg hV hR hP => ?_
 obtain ⟨e48, -, e46, e45, -, -, -, -⟩ := hV
 replace e10 := ft hR e10
 replace D_cn := D_cn.ext hk
 replace D_ci := D_ci.ext hk
 replace e45 := e45.q
 replace e46 := e46.q
 replace e48 := e48.q
 replace own_bo := own_bo.ext hk
 replace own_bm := own_bm.ext hk
 replace own_b8_11 := own_b8_11.ext hk
 replace kw := kw.x hk
 clear hR hk hg hP
 refine tail_updM Try.underlying72 Try.underlying9 e45 e46 e48 own_bm (fun W32 hs own_bm => ?_)
 have own_bm : OwnM W32 bm (mset A name ((mget A name : Int) + (1 : Int))) := own_bm
 replace own_bo := own_store own_bo hs hne
 replace own_b8_11 := own_store own_b8_11 hs ne_bm_b8_11.symm
 replace D_cn := sa_store D_cn hs (by simp)
 replace D_ci := sa_store D_ci hs (by simp)
 replace kw := keeps_storeN kw hs (by simp)
 clear hs
 refine zn (hK30 _ _ ?_)
 refine zq fun K33 hK33 => ?_
 refine rg mixed y31 zz31 ?_
 refine .mb rfl e10 ?_
 refine .al rfl ?_
 refine .dn fun a34 g W34 y34 zz34 hk hg hV hR hP => ?_
 obtain ⟨e6, -, -⟩ := hV
 replace D_cn := D_cn.ext hk
 replace D_ci := D_ci.ext hk
 replace e6 := e6.q
 replace own_bo := own_bo.ext hk
 replace own_bm := own_bm.ext hk
 replace own_b8_11 := own_b8_11.ext hk
 replace kw := kw.x hk
 clear hR hk hg hP
 refine zn (hK33 _ _ ?_)
 refine wp_ret ?_
 refine ret1 rfl zz34 e6 ⟨_, rfl, kw, ?_⟩
 rw [h1, h3, h2]
 exact ⟨rfl, own_bo, own_bm⟩
set_option maxRecDepth 100000 in
theorem takeBD_ok (k : Nat) (n : Int) (t : ByteArray) (cn ci mv : Value) (e : Int) (hE : errK k e ≠ 0) (name : ByteArray) (fv : Value) (w : World) (bo : Nat) (own_bo : Own w bo [.int .u8 k, .int .i64 n, .string t, cn, ci, mv, .int .i64 e] 74) : Calls Try.prog 106 #[.pointer (some ⟨bo, 0, none⟩), .string name, fv] w (Ret w fun u _ => u = .bool false) := by
 refine enter Try.func106 rfl Try.ntmps106 (lbr rfl) fun a0 y0 zz0 harg => ?_
 have e0 : sl a0 0 = (.pointer (some ⟨bo, 0, none⟩)) := harg 0 (lbr rfl)
 have e1 : sl a0 1 = (.string (name)) := harg 1 (lbr rfl)
 have e2 : sl a0 2 = fv := harg 2 (lbr rfl)
 have kw := Keeps.refl All w
 clear harg
 refine zq fun K1 hK1 => ?_
 refine rg mixed y0 zz0 ?_
 refine .ac ?_
 refine .dn fun a2 g W2 y2 zz2 hk hg hV hR hP => ?_
 obtain ⟨-, -⟩ := hV
 replace e0 := ft hR e0
 replace e1 := ft hR e1
 replace e2 := ft hR e2
 replace own_bo := own_bo.ext hk
 replace kw := kw.x hk
 clear hR hk hg hP
 refine zn (hK1 _ _ ?_)
 refine zq fun K3 hK3 => ?_
 refine rg mixed y2 zz2 ?_
 refine .ac ?_
 refine .dn fun a4 g W4 y4 zz4 hk hg hV hR hP => ?_
 obtain ⟨e7, -⟩ := hV
 replace e0 := ft hR e0
 replace e1 := ft hR e1
 replace e2 := ft hR e2
 replace e7 := e7.q
 replace own_bo := own_bo.ext hk
 replace kw := kw.x hk
 clear hR hk hg hP
 refine zn (hK3 _ _ ?_)
 refine zq fun K5 hK5 => ?_
 refine zq fun K6 hK6 => ?_
 refine rg mixed y4 zz4 ?_
 refine .mb rfl e0 ?_
 refine .i (v := (.int .i64 (errK (k : Nat) e))) (sp_call1 (φ1 := Is (.pointer (some ⟨bo, 0, none⟩))) ent24 (hlc rfl) (fun g u1 W hk hgk h1 => by have h1 : u1 = _ := h1; subst u1; exact Err_ok _ _ _ _ _ _ _ W _ (own_bo.ext hk))) ?_
 refine .i (sp_neq (hlc rfl) Has.cst) ?_
 refine .dn fun a7 g W7 y7 zz7 hk hg hV hR hP => ?_
 obtain ⟨e14, -, -, -⟩ := hV
 replace e0 := ft hR e0
 replace e1 := ft hR e1
 replace e2 := ft hR e2
 replace e7 := ft hR e7
 replace e14 := e14.q
 replace own_bo := own_bo.ext hk
 replace kw := kw.x hk
 clear hR hk hg hP
 refine zn (hK6 _ _ ?_)
 refine zc e14 (fun hc => ?_) (fun hc => ?_)
 ·
  refine zq fun K8 hK8 => ?_
  refine rg mixed y7 zz7 ?_
  refine .mb rfl e7 ?_
  refine .al rfl ?_
  refine .dn fun a9 g W9 y9 zz9 hk hg hV hR hP => ?_
  obtain ⟨e6, -, -⟩ := hV
  replace e6 := e6.q
  replace own_bo := own_bo.ext hk
  replace kw := kw.x hk
  clear hR hk hg hP
  refine zn (hK8 _ _ ?_)
  refine wp_ret ?_
  refine ret1 rfl zz9 e6 ⟨_, rfl, kw, ?_⟩
  exact rfl
 exfalso
 exact hE (by simpa using hc)
set_option maxRecDepth 100000 in
theorem Bool_ok (x : V) (A : As) (e : Int) (hA : AB 1000000 A) (hx : x.wt ≤ 1073741824) (hxt : x.t.size ≤ maxLen) (name : ByteArray) (w : World) (S : BSet) (cn ci : Value) (bo bm : Nat) (hS : ∀ b o, S b o → Cln o) (hM : ∀ b ∈ [bo, bm], ∀ o, ¬ S b o) (hne : bo ≠ bm) (hv : Rd w S (strsD x.ns) cn) (hu : Rd w S (valsD x.xs) ci) (own_bo : Own w bo [.int .u8 x.k, .int .i64 x.n, .string x.t, cn, ci, .map (some bm), .int .i64 (e)] 74) (own_bm : OwnM w bm A) : Calls Try.prog 45 #[.pointer (some ⟨bo, 0, none⟩), .string name] w (RetL w [bo, bm] fun u W => u = .bool (if tkB x e name boolE then boolV (getV x name) else false) ∧ Own W bo [.int .u8 x.k, .int .i64 x.n, .string x.t, cn, ci, .map (some bm), .int .i64 (tkE x e name boolE)] 74 ∧ OwnM W bm (tkA x A e name boolE)) := by
 obtain ⟨cna, cnc, ev, D_cn⟩ := rdS_out (rd_argM (M := [bo, bm]) hv hM)
 subst ev
 obtain ⟨cia, cic, ev, D_ci⟩ := rdVs_out (rd_argM (M := [bo, bm]) hu hM)
 subst ev
 refine enter Try.func45 rfl Try.ntmps45 (lbr rfl) fun a0 y0 zz0 harg => ?_
 have e0 : sl a0 0 = (.pointer (some ⟨bo, 0, none⟩)) := harg 0 (lbr rfl)
 have e1 : sl a0 1 = (.string (name)) := harg 1 (lbr rfl)
 have kw := Keeps.refl (fun k => k ∉ [bo, bm]) w
 clear harg
 refine zq fun K1 hK1 => ?_
 refine rg mixed y0 zz0 ?_
 refine .ac ?_
 refine .dn fun a2 g W2 y2 zz2 hk hg hV hR hP => ?_
 obtain ⟨-, -⟩ := hV
 replace e0 := ft hR e0
 replace e1 := ft hR e1
 replace D_cn := D_cn.ext hk
 replace D_ci := D_ci.ext hk
 replace own_bo := own_bo.ext hk
 replace own_bm := own_bm.ext hk
 replace kw := kw.x hk
 clear hR hk hg hP
 refine zn (hK1 _ _ ?_)
 refine zq fun K3 hK3 => ?_
 refine wp_reg (fun k => k ∉ [bo, bm]) (Ψ := fun W => Own W bo [(.int .u8 (x.k)), (.int .i64 (x.n)), (.string (x.t)), (.slice cna (x.ns.length) cnc), (.slice cia (x.xs.length) cic), (.map (some bm)), (.int .i64 (e))] 74 ∧ OwnM W bm (A)) mixed y2 zz2 (stE_and stE_own stE_ownM) ⟨own_bo, own_bm⟩ ?_
 refine .mb rfl e0 ?_
 refine .mb rfl e1 ?_
 refine .callL3 (φ1 := Is (.pointer (some ⟨bo, 0, none⟩))) (φ2 := Is (.string (name))) (φ3 := Is (.func (.func 107) #[] #[])) (φ := Is (.bool (if tkB x e name boolE then boolV (getV x name) else false))) (Ψ' := fun W => Own W bo [(.int .u8 (x.k)), (.int .i64 (x.n)), (.string (x.t)), (.slice cna (x.ns.length) cnc), (.slice cia (x.xs.length) cic), (.map (some bm)), (.int .i64 (tkE x e name boolE))] 74 ∧ OwnM W bm (tkA x A e name boolE)) ent106 (hlc rfl) (hlc rfl) Has.fn (st_is _) (stE_and stE_own stE_ownM) (fun g u1 u2 u3 W hk hg h1 h2 h3 hP => by have h1 : u1 = _ := h1; subst u1; have h2 : u2 = _ := h2; subst u2; have h3 : u3 = _ := h3; subst u3; exact (takeB_ok (x) (A) (e) hA hx hxt name 107 #[] boolE boolV W _ _ _ _ _ (sa_cln hS) (sa_notin (by simp)) hne (sa_keepL D_cn hk (by simp)) (sa_keepL D_ci hk (by simp)) hP.1 hP.2 ent107 (fun W2 hk2 y v hy hv2 => bool1_ok y (by obtain ⟨_, _, _, _, _, h, _⟩ := rdV_out hv2; exact h) W2 _ v hv2))) ?_
 refine .al rfl ?_
 refine .dn fun a4 g W4 y4 zz4 hk hg hV hR hP => ?_
 obtain ⟨e4, -, -, -, -⟩ := hV
 replace e4 := e4.q
 replace D_cn := sa_keepL D_cn hk (by simp)
 replace D_ci := sa_keepL D_ci hk (by simp)
 obtain ⟨own_bo, own_bm⟩ := hP
 replace own_bo : Own W4 bo [(.int .u8 (x.k)), (.int .i64 (x.n)), (.string (x.t)), (.slice cna (x.ns.length) cnc), (.slice cia (x.xs.length) cic), (.map (some bm)), (.int .i64 (tkE x e name boolE))] 74 := own_bo
 replace own_bm : OwnM W4 bm (tkA x A e name boolE) := own_bm
 replace kw := keeps_L kw hk (in_cons (.inr (by simp)) (in_cons (.inr (by simp)) in_nil))
 clear hR hk hg
 refine zn (hK3 _ _ ?_)
 refine wp_ret ?_
 refine ret1 rfl zz4 e4 ⟨_, rfl, kw, ?_⟩
 exact ⟨rfl, own_bo, own_bm⟩
set_option maxRecDepth 100000 in
theorem BoolD_ok (k : Nat) (n : Int) (t : ByteArray) (cn ci mv : Value) (e : Int) (hE : errK k e ≠ 0) (name : ByteArray) (w : World) (bo : Nat) (own_bo : Own w bo [.int .u8 k, .int .i64 n, .string t, cn, ci, mv, .int .i64 e] 74) : Calls Try.prog 45 #[.pointer (some ⟨bo, 0, none⟩), .string name] w (Ret w fun u _ => u = .bool false) := by
 refine enter Try.func45 rfl Try.ntmps45 (lbr rfl) fun a0 y0 zz0 harg => ?_
 have e0 : sl a0 0 = (.pointer (some ⟨bo, 0, none⟩)) := harg 0 (lbr rfl)
 have e1 : sl a0 1 = (.string (name)) := harg 1 (lbr rfl)
 have kw := Keeps.refl All w
 clear harg
 refine zq fun K1 hK1 => ?_
 refine rg mixed y0 zz0 ?_
 refine .ac ?_
 refine .dn fun a2 g W2 y2 zz2 hk hg hV hR hP => ?_
 obtain ⟨-, -⟩ := hV
 replace e0 := ft hR e0
 replace e1 := ft hR e1
 replace own_bo := own_bo.ext hk
 replace kw := kw.x hk
 clear hR hk hg hP
 refine zn (hK1 _ _ ?_)
 refine zq fun K3 hK3 => ?_
 refine rg mixed y2 zz2 ?_
 refine .mb rfl e0 ?_
 refine .mb rfl e1 ?_
 refine .i (v := (.bool (false))) (sp_call3 (φ1 := Is (.pointer (some ⟨bo, 0, none⟩))) (φ2 := Is (.string (name))) (φ3 := Is (.func (.func 107) #[] #[])) ent106 (hlc rfl) (hlc rfl) Has.fn (fun g u1 u2 u3 W hk hgk h1 h2 h3 => by have h1 : u1 = _ := h1; subst u1; have h2 : u2 = _ := h2; subst u2; have h3 : u3 = _ := h3; subst u3; exact takeBD_ok _ _ _ _ _ _ _ hE _ _ W _ (own_bo.ext hk))) ?_
 refine .al rfl ?_
 refine .dn fun a4 g W4 y4 zz4 hk hg hV hR hP => ?_
 obtain ⟨e4, -, -, -, -⟩ := hV
 replace e4 := e4.q
 replace own_bo := own_bo.ext hk
 replace kw := kw.x hk
 clear hR hk hg hP
 refine zn (hK3 _ _ ?_)
 refine wp_ret ?_
 refine ret1 rfl zz4 e4 ⟨_, rfl, kw, ?_⟩
 exact rfl
set_option maxRecDepth 100000 in
theorem list1_ok (x : V) (most : Int) (w : World) (S : BSet) (v : Value) (bq : Nat) (hv : Rd w S x.d v) (own_bq : Own w bq [.int .i64 most] 3) : Calls Try.prog 109 #[v, .pointer (some ⟨bq, 0, none⟩)] w (Ret w fun r W => ∃ r1, r = .tuple #[r1, .int .i64 (listE most x)] ∧ Rd W (Ar w S) (valsD (listV most x)) r1) := by
 obtain ⟨cn0a, cn0c, ci0a, ci0c, ev, ht0, D_cn0, D_ci0⟩ := rdV_out (rd_arg hv)
 subst ev
 refine enter Try.func109 rfl Try.ntmps109 (lbr rfl) fun a0 y0 zz0 harg => ?_
 have e0 : sl a0 0 = (.agg #[(.int .u8 (x.k)), (.int .i64 (x.n)), (.string (x.t)), (.slice cn0a (x.ns.length) cn0c), (.slice ci0a (x.xs.length) ci0c)]) := harg 0 (lbr rfl)
 have e1 : sl a0 1 = (.pointer (some ⟨bq, 0, none⟩)) := harg 1 (lbr rfl)
 have kw := Keeps.refl All w
 clear harg
 refine zq fun K1 hK1 => ?_
 refine rg mixed y0 zz0 ?_
 refine .boxOp (v := (.agg #[(.int .u8 (x.k)), (.int .i64 (x.n)), (.string (x.t)), (.slice cn0a (x.ns.length) cn0c), (.slice ci0a (x.xs.length) ci0c)])) (hbs rfl e0) ?_
 refine .ac ?_
 refine .ac ?_
 refine .dn fun a2 g W2 y2 zz2 hk hg hV hR hP => ?_
 obtain ⟨-, -, ⟨b2_2, e2, hb2, own_b2_2⟩, -⟩ := hV
 have lo_b2_2 : w.heap.size ≤ b2_2 := Nat.le_trans kw.size (hg.lo _ _ hb2)
 have ne_bq_b2_2 : bq ≠ b2_2 := Nat.ne_of_lt (Nat.lt_of_lt_of_le own_bq.lt (hg.lo _ _ hb2))
 have own_b2_2 : Own W2 b2_2 [(.int .u8 (x.k)), (.int .i64 (x.n)), (.string (x.t)), (.slice cn0a (x.ns.length) cn0c), (.slice ci0a (x.xs.length) ci0c)] 33 := own_b2_2
 replace e1 := ft hR e1
 replace D_cn0 := sa_more D_cn0 hk [b2_2] (in_cons (hg.lo _ _ hb2) in_nil)
 replace D_ci0 := sa_more D_ci0 hk [b2_2] (in_cons (hg.lo _ _ hb2) in_nil)
 replace own_bq := own_bq.ext hk
 replace kw := kw.x hk
 clear hR hk hg hP hb2
 refine zn (hK1 _ _ ?_)
 refine zq fun K3 hK3 => ?_
 refine rg mixed y2 zz2 ?_
 refine .i (v := (.agg #[(.int .u8 (x.k)), (.int .i64 (x.n)), (.string (x.t)), (.slice cn0a (x.ns.length) cn0c), (.slice ci0a (x.xs.length) ci0c)])) (loA (hbs rfl e2) own_b2_2 trivial agg33 sz33 rfl rfl) ?_
 refine .i (lo1 (hbs rfl e1) own_bq trivial agg3 sz3 rfl) ?_
 refine .op (φ := IsT (IsD (SA w S [b2_2]) (valsD (itemsV (x) most))) (Is (.int .i64 (itemsE (x) most)))) (st_t (st_d sub_all) (st_is _)) (sp_call2 (φ1 := IsD (SA w S [b2_2]) (V.d (x))) (φ2 := Is (.int .i64 (most))) ent100 ((hlc rfl).dat (rdV_in (x := x) ht0 D_cn0 D_ci0 : Rd W2 (SA w S [b2_2]) (V.d (x)) _) sub_all) (hlc rfl) (fun g u1 u2 W hk hgk h1 h2 => by have h2 : u2 = _ := h2; subst u2; exact (items_ok (x) (most) W _ _ h1).mono (fun _ _ ⟨v, h1, h2, r1, h3, h4⟩ => ⟨v, h1, h2, r1, _, h3, rd_ar_sa kw (in_cons own_b2_2.lt in_nil) hk hgk h4, rfl⟩))) ?_
 refine .da (X := SA w S [b2_2]) (e := valsD (itemsV (x) most)) (sp_ext2 (hlc rfl) rfl) ?_
 refine .i (v := (.int .i64 (itemsE (x) most))) (sp_ext2' (hlc rfl) rfl) ?_
 refine .da (X := SA w S [b2_2]) (e := valsD (itemsV (x) most)) (sp_assign (hlc rfl)) ?_
 refine .al rfl ?_
 refine .dn fun a4 g W4 y4 zz4 hk hg hV hR hP => ?_
 obtain ⟨e4, e3, -, -, -, -, -, -⟩ := hV
 replace D_cn0 := D_cn0.ext hk
 replace D_ci0 := D_ci0.ext hk
 obtain ⟨v3_4, ev⟩ : ∃ v, sl a4 3 = v := ⟨_, rfl⟩
 rw [ev] at e3
 have D_v3_4 : Rd W4 (SA w S [b2_2]) (valsD (itemsV (x) most)) v3_4 := sa_end e3 hk [] in_nil
 replace e3 := ev; clear ev
 obtain ⟨v3_4a, v3_4c, ev, D2⟩ := rdVs_out D_v3_4
 subst ev; replace D_v3_4 := D2; clear D2
 replace e4 := e4.q
 replace own_bq := own_bq.ext hk
 replace own_b2_2 := own_b2_2.ext hk
 replace kw := kw.x hk
 clear hR hk hg hP
 refine zn (hK3 _ _ ?_)
 refine wp_ret ?_
 refine ret2 rfl zz4 e3 e4 ⟨_, rfl, kw, ?_⟩
 exact ⟨_, rfl, sa_ar D_v3_4⟩
set_option maxRecDepth 100000 in
theorem takeL_ok (x : V) (A : As) (e : Int) (hA : AB 1000000 A) (hx : x.wt ≤ 1073741824) (hxt : x.t.size ≤ maxLen) (name : ByteArray) (fi : FuncId) (cb : Array Value) (ce : V → Int) (fv : V → List V) (w : World) (S : BSet) (cn ci : Value) (bo bm : Nat) (hS : ∀ b o, S b o → Cln o) (hM : ∀ b ∈ [bo, bm], ∀ o, ¬ S b o) (hne : bo ≠ bm) (hv : Rd w S (strsD x.ns) cn) (hu : Rd w S (valsD x.xs) ci) (own_bo : Own w bo [.int .u8 x.k, .int .i64 x.n, .string x.t, cn, ci, .map (some bm), .int .i64 (e)] 74) (own_bm : OwnM w bm A) (ef : Enters Try.prog fi) (hf : ∀ W, Keeps (fun k => k ∉ [bo, bm]) w W → ∀ (Z : BSet) (y : V) (v : Value), y.wt ≤ 1073741824 → Rd W Z y.d v → Calls Try.prog fi (#[v] ++ cb) W (Ret W fun r W2 => ∃ r1, r = .tuple #[r1, .int .i64 (ce y)] ∧ Rd W2 (Ar W Z) (valsD (fv y)) r1)) : Calls Try.prog 108 #[.pointer (some ⟨bo, 0, none⟩), .string name, .func (.func fi) #[] cb] w (RetL w [bo, bm] fun u W => Rd W (Fr w) (valsD (if tkB x e name ce then fv (getV x name) else [])) u ∧ Own W bo [.int .u8 x.k, .int .i64 x.n, .string x.t, cn, ci, .map (some bm), .int .i64 (tkE x e name ce)] 74 ∧ OwnM W bm (tkA x A e name ce)) := by
 have hwx := wt_eq x
 have hwl := wts_len x.xs
 have hwn := wtN_len x.ns
 obtain ⟨cna, cnc, ev, D_cn⟩ := rdS_out (rd_argM (M := [bo, bm]) hv hM)
 subst ev
 obtain ⟨cia, cic, ev, D_ci⟩ := rdVs_out (rd_argM (M := [bo, bm]) hu hM)
 subst ev
 refine enter Try.func108 rfl Try.ntmps108 (lbr rfl) fun a0 y0 zz0 harg => ?_
 have e0 : sl a0 0 = (.pointer (some ⟨bo, 0, none⟩)) := harg 0 (lbr rfl)
 have e1 : sl a0 1 = (.string (name)) := harg 1 (lbr rfl)
 have e2 : sl a0 2 = (.func (.func fi) #[] cb) := harg 2 (lbr rfl)
 have kw := Keeps.refl (fun k => k ∉ [bo, bm]) w
 clear harg
 refine zq fun K1 hK1 => ?_
 refine rg mixed y0 zz0 ?_
 refine .ac ?_
 refine .dn fun a2 g W2 y2 zz2 hk hg hV hR hP => ?_
 obtain ⟨-, -⟩ := hV
 replace e0 := ft hR e0
 replace e1 := ft hR e1
 replace e2 := ft hR e2
 replace D_cn := D_cn.ext hk
 replace D_ci := D_ci.ext hk
 replace own_bo := own_bo.ext hk
 replace own_bm := own_bm.ext hk
 replace kw := kw.x hk
 clear hR hk hg hP
 refine zn (hK1 _ _ ?_)
 refine zq fun K3 hK3 => ?_
 refine rg mixed y2 zz2 ?_
 refine .ac ?_
 refine .dn fun a4 g W4 y4 zz4 hk hg hV hR hP => ?_
 obtain ⟨e7, -⟩ := hV
 replace e0 := ft hR e0
 replace e1 := ft hR e1
 replace e2 := ft hR e2
 replace D_cn := D_cn.ext hk
 replace D_ci := D_ci.ext hk
 replace e7 := e7.q
 replace own_bo := own_bo.ext hk
 replace own_bm := own_bm.ext hk
 replace kw := kw.x hk
 clear hR hk hg hP
 refine zn (hK3 _ _ ?_)
 refine zq fun K5 hK5 => ?_
 refine zq fun K6 hK6 => ?_
 refine rg mixed y4 zz4 ?_
 refine .mb rfl e0 ?_
 refine .i (v := (.int .i64 (errK x.k e))) (sp_call1 (φ1 := Is (.pointer (some ⟨bo, 0, none⟩))) ent24 (hlc rfl) (fun g u1 W hk hgk h1 => by have h1 : u1 = _ := h1; subst u1; exact Err_ok _ _ _ _ _ _ _ W _ (own_bo.ext hk))) ?_
 refine .i (sp_neq (hlc rfl) Has.cst) ?_
 refine .dn fun a7 g W7 y7 zz7 hk hg hV hR hP => ?_
 obtain ⟨e14, -, -, -⟩ := hV
 replace e0 := ft hR e0
 replace e1 := ft hR e1
 replace e2 := ft hR e2
 replace e7 := ft hR e7
 replace D_cn := D_cn.ext hk
 replace D_ci := D_ci.ext hk
 replace e14 := e14.q
 replace own_bo := own_bo.ext hk
 replace own_bm := own_bm.ext hk
 replace kw := kw.x hk
 clear hR hk hg hP
 refine zn (hK6 _ _ ?_)
 refine zc e14 (fun hc => ?_) (fun hc => ?_)
 ·
  have hE : errK x.k e ≠ 0 := by simpa using hc
  have h1 : tkE x e name ce = e := by rw [tkE, if_pos hE]
  have h2 : tkB x e name ce = false := by simp [tkB, hE]
  have h3 : tkA x A e name ce = A := by rw [tkA, h2]; rfl
  refine zq fun K8 hK8 => ?_
  refine rg mixed y7 zz7 ?_
  refine .mb rfl e7 ?_
  refine .al rfl ?_
  refine .dn fun a9 g W9 y9 zz9 hk hg hV hR hP => ?_
  obtain ⟨e6, -, -⟩ := hV
  replace D_cn := D_cn.ext hk
  replace D_ci := D_ci.ext hk
  replace e6 := e6.q
  replace own_bo := own_bo.ext hk
  replace own_bm := own_bm.ext hk
  replace kw := kw.x hk
  clear hR hk hg hP
  refine zn (hK8 _ _ ?_)
  refine wp_ret ?_
  refine ret1 rfl zz9 e6 ⟨_, rfl, kw, ?_⟩
  rw [h1, h3, h2]
  exact ⟨rd_nil _, own_bo, own_bm⟩
 have hE : errK x.k e = 0 := by simpa using hc
 have he0 := (errK_zero hE).1
 refine wp_skip (hK5 _ _ ?_)
 refine zq fun K10 hK10 => ?_
 refine rg mixed y7 zz7 ?_
 refine .mb rfl e0 ?_
 refine .i (sp_nilP (hlc rfl)) ?_
 refine .i (fo 0 (hlc rfl) Try.underlying74 rfl sz33 rfl) ?_
 refine .i (v := (.agg #[(.int .u8 (x.k)), (.int .i64 (x.n)), (.string (x.t)), (.slice cna (x.ns.length) cnc), (.slice cia (x.xs.length) cic)])) (loA (hlc rfl) own_bo trivial agg33 sz33 rfl rfl) ?_
 refine .mb rfl e1 ?_
 refine .op (φ := IsT (IsD (Fr W7) (V.d (getV (x) name))) (Is (.bool (getB (x) name)))) (st_t (st_d sub_all) (st_is _)) (sp_call2 (φ1 := IsD (SA w S [bo, bm]) (V.d (x))) (φ2 := Is (.string (name))) ent101 ((hlc rfl).dat (rdV_in (x := x) hxt D_cn D_ci : Rd W7 (SA w S [bo, bm]) (V.d (x)) _) sub_all) (hlc rfl) (fun g u1 u2 W hk hgk h1 h2 => by have h2 : u2 = _ := h2; subst u2; exact (Get_ok (x) (name) (by omega) W _ _ (fun b o h => sa_cln hS b o h.1) h1).mono (fun _ _ ⟨v, h1, h2, r1, h3, h4⟩ => ⟨v, h1, h2, r1, _, h3, fresh_d hk hgk h4, rfl⟩))) ?_
 refine .op (φ := IsT (IsD (Fr W7) (V.d (getV (x) name))) (Is (.bool (getB (x) name)))) (st_t (st_d sub_all) (st_is _)) (sp_move (hlc rfl)) ?_
 refine .da (X := Fr W7) (e := V.d (getV (x) name)) (sp_ext2 (hlc rfl) rfl) ?_
 refine .i (v := (.bool (getB (x) name))) (sp_ext2' (hlc rfl) rfl) ?_
 refine .alloc z33 ?_
 refine .dn fun a11 g W11 y11 zz11 hk hg hV hR hP => ?_
 obtain ⟨⟨b8_11, e8, hb8, own_b8_11⟩, e24, e23, -, -, -, -, -, -, -, -⟩ := hV
 have lo_b8_11 : w.heap.size ≤ b8_11 := Nat.le_trans kw.size (hg.lo _ _ hb8)
 have ne_bo_b8_11 : bo ≠ b8_11 := Nat.ne_of_lt (Nat.lt_of_lt_of_le own_bo.lt (hg.lo _ _ hb8))
 have ne_bm_b8_11 : bm ≠ b8_11 := Nat.ne_of_lt (Nat.lt_of_lt_of_le own_bm.lt (hg.lo _ _ hb8))
 have own_b8_11 : Own W11 b8_11 z5C 33 := own_b8_11
 replace e0 := ft hR e0
 replace e1 := ft hR e1
 replace e2 := ft hR e2
 replace e7 := ft hR e7
 replace D_cn := sa_more D_cn hk [b8_11] (in_cons (hg.lo _ _ hb8) in_nil)
 replace D_ci := sa_more D_ci hk [b8_11] (in_cons (hg.lo _ _ hb8) in_nil)
 obtain ⟨v23_11, ev⟩ : ∃ v, sl a11 23 = v := ⟨_, rfl⟩
 rw [ev] at e23
 have D_v23_11 : Rd W11 (SF w [b8_11, bo, bm]) (V.d (getV (x) name)) v23_11 := fr_end (M := [bo, bm]) e23 kw [b8_11] (in_cons ⟨_, hb8⟩ in_nil) (in_cons own_bo.lt (in_cons own_bm.lt in_nil))
 replace e23 := ev; clear ev
 obtain ⟨cn23_11a, cn23_11c, ci23_11a, ci23_11c, ev, ht_v23_11, D_cn23_11, D_ci23_11⟩ := rdV_out D_v23_11
 subst ev; clear D_v23_11
 replace e24 := e24.q
 replace own_bo := own_bo.ext hk
 replace own_bm := own_bm.ext hk
 replace kw := kw.x hk
 clear hR hk hg hP hb8
 refine tail_store e8 e23 sz33 rfl own_b8_11 (lbr rfl) (all_cons rfl (all_cons rfl (all_cons rfl (all_cons rfl (all_cons rfl all_nil))))) (fun W12 hs own_b8_11 => ?_)
 have own_b8_11 : Own W12 b8_11 [(.int .u8 ((getV (x) name).k)), (.int .i64 ((getV (x) name).n)), (.string ((getV (x) name).t)), (.slice cn23_11a (((getV (x) name).ns).length) cn23_11c), (.slice ci23_11a (((getV (x) name).xs).length) ci23_11c)] 33 := own_b8_11
 replace own_bo := own_store own_bo hs ne_bo_b8_11
 replace own_bm := ownM_store own_bm hs ne_bm_b8_11
 replace D_cn := sa_store D_cn hs (by simp)
 replace D_ci := sa_store D_ci hs (by simp)
 replace D_cn23_11 := sf_store D_cn23_11 hs (by simp)
 replace D_ci23_11 := sf_store D_ci23_11 hs (by simp)
 replace kw := keeps_store kw hs lo_b8_11
 clear hs
 refine tail_assign (v := (.bool (getB (x) name))) e24 (by rw [y11]; exact Nat.le_of_ble_eq_true rfl) (fun a13 y13 zz13 e9 hr => ?_)
 replace y13 := y13.trans y11; replace zz13 := zz13.trans zz11
 replace e0 := (hr 0 (by decide)).trans e0
 replace e1 := (hr 1 (by decide)).trans e1
 replace e2 := (hr 2 (by decide)).trans e2
 replace e7 := (hr 7 (by decide)).trans e7
 replace e8 := (hr 8 (by decide)).trans e8
 replace e23 := (hr 23 (by decide)).trans e23
 replace e24 := (hr 24 (by decide)).trans e24
 clear hr
 refine zn (hK10 _ _ ?_)
 refine zq fun K14 hK14 => ?_
 refine zq fun K15 hK15 => ?_
 refine rg mixed y13 zz13 ?_
 refine .mb rfl e9 ?_
 refine .i (sp_not (hlc rfl)) ?_
 refine .dn fun a16 g W16 y16 zz16 hk hg hV hR hP => ?_
 obtain ⟨e26, -, -⟩ := hV
 replace e0 := ft hR e0
 replace e1 := ft hR e1
 replace e2 := ft hR e2
 replace e7 := ft hR e7
 replace e8 := ft hR e8
 replace D_cn := D_cn.ext hk
 replace D_ci := D_ci.ext hk
 replace D_cn23_11 := D_cn23_11.ext hk
 replace D_ci23_11 := D_ci23_11.ext hk
 replace e26 := e26.q
 replace own_bo := own_bo.ext hk
 replace own_bm := own_bm.ext hk
 replace own_b8_11 := own_b8_11.ext hk
 replace kw := kw.x hk
 clear hR hk hg hP
 refine zn (hK15 _ _ ?_)
 refine zc e26 (fun hc => ?_) (fun hc => ?_)
 ·
  have hg0 : getB x name = false := by simpa using hc
  have h1 : tkE x e name ce = failK x.k e 6 := by rw [tkE, if_neg (by simp [hE]), if_pos hg0, failK, if_pos hE]
  have h2 : tkB x e name ce = false := by simp [tkB, hg0]
  have h3 : tkA x A e name ce = A := by rw [tkA, h2]; rfl
  refine zq fun K17 hK17 => ?_
  refine wp_reg (fun k => k ∉ [bo]) (Ψ := fun W => Own W bo [(.int .u8 (x.k)), (.int .i64 (x.n)), (.string (x.t)), (.slice cna (x.ns.length) cnc), (.slice cia (x.xs.length) cic), (.map (some bm)), (.int .i64 (e))] 74) mixed y16 zz16 stE_own own_bo ?_
  refine .mb rfl e0 ?_
  refine .callL2 (φ1 := Is (.pointer (some ⟨bo, 0, none⟩))) (φ2 := Is (.int .i64 (6))) (φ := Is (.tuple #[])) (Ψ' := fun W => Own W bo [(.int .u8 (x.k)), (.int .i64 (x.n)), (.string (x.t)), (.slice cna (x.ns.length) cnc), (.slice cia (x.xs.length) cic), (.map (some bm)), (.int .i64 (failK x.k e 6))] 74) ent22 (hlc rfl) Has.cst (st_is _) stE_own (fun g u1 u2 W hk hg h1 h2 hP => by have h1 : u1 = _ := h1; subst u1; have h2 : u2 = _ := h2; subst u2; exact (Fail_ok _ _ _ _ _ _ _ (6) W _ hP)) ?_
  refine .dn fun a18 g W18 y18 zz18 hk hg hV hR hP => ?_
  obtain ⟨-, -, -⟩ := hV
  replace e7 := ft hR e7
  replace D_cn := sa_keepL D_cn hk (by simp)
  replace D_ci := sa_keepL D_ci hk (by simp)
  replace D_cn23_11 := sf_keepL D_cn23_11 hk (by simp)
  replace D_ci23_11 := sf_keepL D_ci23_11 hk (by simp)
  replace own_bm := ownM_keepL own_bm hk (by simp [hne.symm])
  replace own_b8_11 := own_keepL own_b8_11 hk (by simp [ne_bo_b8_11.symm])
  have own_bo := hP
  replace own_bo : Own W18 bo [(.int .u8 (x.k)), (.int .i64 (x.n)), (.string (x.t)), (.slice cna (x.ns.length) cnc), (.slice cia (x.xs.length) cic), (.map (some bm)), (.int .i64 (failK x.k e 6))] 74 := own_bo
  replace kw := keeps_L kw hk (in_cons (.inr (by simp)) in_nil)
  clear hR hk hg hP
  refine zn (hK17 _ _ ?_)
  refine zq fun K19 hK19 => ?_
  refine rg mixed y18 zz18 ?_
  refine .mb rfl e7 ?_
  refine .al rfl ?_
  refine .dn fun a20 g W20 y20 zz20 hk hg hV hR hP => ?_
  obtain ⟨e6, -, -⟩ := hV
  replace D_cn := D_cn.ext hk
  replace D_ci := D_ci.ext hk
  replace e6 := e6.q
  replace own_bo := own_bo.ext hk
  replace own_bm := own_bm.ext hk
  replace own_b8_11 := own_b8_11.ext hk
  replace kw := kw.x hk
  clear hR hk hg hP
  refine zn (hK19 _ _ ?_)
  refine wp_ret ?_
  refine ret1 rfl zz20 e6 ⟨_, rfl, kw, ?_⟩
  rw [h1, h3, h2]
  exact ⟨rd_nil _, own_bo, own_bm⟩
 have hg1 : getB x name = true := by simpa using hc
 have hAn := hA name
 have hwg := Nat.le_trans (getV_wt x name) hx
 refine wp_skip (hK14 _ _ ?_)
 refine zq fun K21 hK21 => ?_
 refine rg mixed y16 zz16 ?_
 refine .mb rfl e2 ?_
 refine .i (v := (.agg #[(.int .u8 ((getV (x) name).k)), (.int .i64 ((getV (x) name).n)), (.string ((getV (x) name).t)), (.slice cn23_11a (((getV (x) name).ns).length) cn23_11c), (.slice ci23_11a (((getV (x) name).xs).length) ci23_11c)])) (loA (hbs rfl e8) own_b8_11 trivial agg33 sz33 rfl rfl) ?_
 refine .op (φ := IsT (IsD (SF w [b8_11, bo, bm]) (valsD (fv (getV x name)))) (Is (.int .i64 (ce (getV x name))))) (st_t (st_d sub_all) (st_is _)) (sp_callF1 ef (hlc rfl) (hlc rfl) (fun g W hk hgk => (hf W (kw.trans (.of_ext hk)) _ _ _ hwg (rd_base (rdV_in (x := (getV (x) name)) ht_v23_11 D_cn23_11 D_ci23_11 : Rd W16 (SF w [b8_11, bo, bm]) (V.d ((getV (x) name))) _) hk hgk sub_all)).mono (fun _ _ ⟨v, h1, h2, r1, h3, h4⟩ => ⟨v, h1, h2, r1, _, h3, rd_ar_sf kw (in_cons own_b8_11.lt (in_cons own_bo.lt (in_cons own_bm.lt in_nil))) hk hgk h4, rfl⟩))) ?_
 refine .op (φ := IsT (IsD (SF w [b8_11, bo, bm]) (valsD (fv (getV x name)))) (Is (.int .i64 (ce (getV x name))))) (st_t (st_d sub_all) (st_is _)) (sp_move (hlc rfl)) ?_
 refine .da (X := SF w [b8_11, bo, bm]) (e := valsD (fv (getV x name))) (sp_ext2 (hlc rfl) rfl) ?_
 refine .i (v := (.int .i64 (ce (getV x name)))) (sp_ext2' (hlc rfl) rfl) ?_
 refine .da (X := SF w [b8_11, bo, bm]) (e := valsD (fv (getV x name))) (sp_assign (hlc rfl)) ?_
 refine .al rfl ?_
 refine .dn fun a22 g W22 y22 zz22 hk hg hV hR hP => ?_
 obtain ⟨e11, e10, -, -, -, -, -, -, -⟩ := hV
 replace e0 := ft hR e0
 replace e1 := ft hR e1
 replace e7 := ft hR e7
 replace D_cn := D_cn.ext hk
 replace D_ci := D_ci.ext hk
 replace D_cn23_11 := D_cn23_11.ext hk
 replace D_ci23_11 := D_ci23_11.ext hk
 obtain ⟨v10_22, ev⟩ : ∃ v, sl a22 10 = v := ⟨_, rfl⟩
 rw [ev] at e10
 have D_v10_22 : Rd W22 (SF w [b8_11, bo, bm]) (valsD (fv (getV x name))) v10_22 := sf_end e10 hk [] in_nil
 replace e10 := ev; clear ev
 obtain ⟨v10_22a, v10_22c, ev, D2⟩ := rdVs_out D_v10_22
 subst ev; replace D_v10_22 := D2; clear D2
 replace e11 := e11.q
 replace own_bo := own_bo.ext hk
 replace own_bm := own_bm.ext hk
 replace own_b8_11 := own_b8_11.ext hk
 replace kw := kw.x hk
 clear hR hk hg hP
 refine zn (hK21 _ _ ?_)
 refine zq fun K23 hK23 => ?_
 refine zq fun K24 hK24 => ?_
 refine rg mixed y22 zz22 ?_
 refine .mb rfl e11 ?_
 refine .i (sp_neq (hlc rfl) Has.cst) ?_
 refine .dn fun a25 g W25 y25 zz25 hk hg hV hR hP => ?_
 obtain ⟨e37, -, -⟩ := hV
 replace e0 := ft hR e0
 replace e1 := ft hR e1
 replace e7 := ft hR e7
 replace e10 := ft hR e10
 replace e11 := ft hR e11
 replace D_cn := D_cn.ext hk
 replace D_ci := D_ci.ext hk
 replace D_v10_22 := D_v10_22.ext hk
 replace e37 := e37.q
 replace own_bo := own_bo.ext hk
 replace own_bm := own_bm.ext hk
 replace own_b8_11 := own_b8_11.ext hk
 replace kw := kw.x hk
 clear hR hk hg hP
 refine zn (hK24 _ _ ?_)
 refine zc e37 (fun hc => ?_) (fun hc => ?_)
 ·
  have hce : ce (getV x name) ≠ 0 := by simpa using hc
  have h1 : tkE x e name ce = failK x.k e (ce (getV x name)) := by rw [tkE, if_neg (by simp [hE]), if_neg (by simp [hg1]), failK, if_pos hE]
  have h2 : tkB x e name ce = false := by simp [tkB, hce]
  have h3 : tkA x A e name ce = A := by rw [tkA, h2]; rfl
  refine zq fun K26 hK26 => ?_
  refine wp_reg (fun k => k ∉ [bo]) (Ψ := fun W => Own W bo [(.int .u8 (x.k)), (.int .i64 (x.n)), (.string (x.t)), (.slice cna (x.ns.length) cnc), (.slice cia (x.xs.length) cic), (.map (some bm)), (.int .i64 (e))] 74) mixed y25 zz25 stE_own own_bo ?_
  refine .mb rfl e0 ?_
  refine .mb rfl e11 ?_
  refine .callL2 (φ1 := Is (.pointer (some ⟨bo, 0, none⟩))) (φ2 := Is (.int .i64 (ce (getV x name)))) (φ := Is (.tuple #[])) (Ψ' := fun W => Own W bo [(.int .u8 (x.k)), (.int .i64 (x.n)), (.string (x.t)), (.slice cna (x.ns.length) cnc), (.slice cia (x.xs.length) cic), (.map (some bm)), (.int .i64 (failK x.k e (ce (getV x name))))] 74) ent22 (hlc rfl) (hlc rfl) (st_is _) stE_own (fun g u1 u2 W hk hg h1 h2 hP => by have h1 : u1 = _ := h1; subst u1; have h2 : u2 = _ := h2; subst u2; exact (Fail_ok _ _ _ _ _ _ _ (ce (getV x name)) W _ hP)) ?_
  refine .dn fun a27 g W27 y27 zz27 hk hg hV hR hP => ?_
  obtain ⟨-, -, -, -⟩ := hV
  replace e7 := ft hR e7
  replace D_cn := sa_keepL D_cn hk (by simp)
  replace D_ci := sa_keepL D_ci hk (by simp)
  replace D_v10_22 := sf_keepL D_v10_22 hk (by simp)
  replace own_bm := ownM_keepL own_bm hk (by simp [hne.symm])
  replace own_b8_11 := own_keepL own_b8_11 hk (by simp [ne_bo_b8_11.symm])
  have own_bo := hP
  replace own_bo : Own W27 bo [(.int .u8 (x.k)), (.int .i64 (x.n)), (.string (x.t)), (.slice cna (x.ns.length) cnc), (.slice cia (x.xs.length) cic), (.map (some bm)), (.int .i64 (failK x.k e (ce (getV x name))))] 74 := own_bo
  replace kw := keeps_L kw hk (in_cons (.inr (by simp)) in_nil)
  clear hR hk hg hP
  refine zn (hK26 _ _ ?_)
  refine zq fun K28 hK28 => ?_
  refine rg mixed y27 zz27 ?_
  refine .mb rfl e7 ?_
  refine .al rfl ?_
  refine .dn fun a29 g W29 y29 zz29 hk hg hV hR hP => ?_
  obtain ⟨e6, -, -⟩ := hV
  replace D_cn := D_cn.ext hk
  replace D_ci := D_ci.ext hk
  replace e6 := e6.q
  replace own_bo := own_bo.ext hk
  replace own_bm := own_bm.ext hk
  replace own_b8_11 := own_b8_11.ext hk
  replace kw := kw.x hk
  clear hR hk hg hP
  refine zn (hK28 _ _ ?_)
  refine wp_ret ?_
  refine ret1 rfl zz29 e6 ⟨_, rfl, kw, ?_⟩
  rw [h1, h3, h2]
  exact ⟨rd_nil _, own_bo, own_bm⟩
 have hce : ce (getV x name) = 0 := by simpa using hc
 have h1 : tkE x e name ce = e := by rw [tkE, if_neg (by simp [hE]), if_neg (by simp [hg1]), hce, he0]
 have h2 : tkB x e name ce = true := by simp [tkB, hE, hg1, hce]
 have h3 : tkA x A e name ce = mset A name (mget A name + 1) := by rw [tkA, h2]; rfl
 refine wp_skip (hK23 _ _ ?_)
 refine zq fun K30 hK30 => ?_
 refine rg mixed y25 zz25 ?_
 refine .mb rfl e0 ?_
 refine .i (sp_nilP (hlc rfl)) ?_
 refine .i (fo 5 (hlc rfl) Try.underlying74 rfl sz72 rfl) ?_
 refine .i (lo1 (hlc rfl) own_bo trivial agg72 sz72 rfl) ?_
 refine .mb rfl e1 ?_
 refine .i (sp_lookup Try.underlying72 Try.underlying9 z3 (hlc rfl) (hlc rfl) own_bm trivial) ?_
 refine .i (sp_add (hlc rfl) Has.cst (i64_in (by omega))) ?_
 refine .dn fun a31 g W31 y31 zz31 hk hg hV hR hP => ?_
 obtain ⟨e48, -, e46, e45, -, -, -, -⟩ := hV
 replace e10 := ft hR e10
 replace D_cn := D_cn.ext hk
 replace D_ci := D_ci.ext hk
 replace D_v10_22 := D_v10_22.ext hk
 replace e45 := e45.q
 replace e46 := e46.q
 replace e48 := e48.q
 replace own_bo := own_bo.ext hk
 replace own_bm := own_bm.ext hk
 replace own_b8_11 := own_b8_11.ext hk
 replace kw := kw.x hk
 clear hR hk hg hP
 refine tail_updM Try.underlying72 Try.underlying9 e45 e46 e48 own_bm (fun W32 hs own_bm => ?_)
 have own_bm : OwnM W32 bm (mset A name ((mget A name : Int) + (1 : Int))) := own_bm
 replace own_bo := own_store own_bo hs hne
 replace own_b8_11 := own_store own_b8_11 hs ne_bm_b8_11.symm
 replace D_cn := sa_store D_cn hs (by simp)
 replace D_ci := sa_store D_ci hs (by simp)
 replace D_v10_22 := sf_store D_v10_22 hs (by simp)
 replace kw := keeps_storeN kw hs (by simp)
 clear hs
 refine zn (hK30 _ _ ?_)
 refine zq fun K33 hK33 => ?_
 refine rg mixed y31 zz31 ?_
 refine .mb rfl e10 ?_
 refine .al rfl ?_
 refine .dn fun a34 g W34 y34 zz34 hk hg hV hR hP => ?_
 obtain ⟨e6, -, -⟩ := hV
 replace D_cn := D_cn.ext hk
 replace D_ci := D_ci.ext hk
 replace D_v10_22 := D_v10_22.ext hk
 replace e6 := e6.q
 replace own_bo := own_bo.ext hk
 replace own_bm := own_bm.ext hk
 replace own_b8_11 := own_b8_11.ext hk
 replace kw := kw.x hk
 clear hR hk hg hP
 refine zn (hK33 _ _ ?_)
 refine wp_ret ?_
 refine ret1 rfl zz34 e6 ⟨_, rfl, kw, ?_⟩
 rw [h1, h3, h2]
 exact ⟨sf_fr D_v10_22, own_bo, own_bm⟩
set_option maxRecDepth 100000 in
theorem takeLD_ok (k : Nat) (n : Int) (t : ByteArray) (cn ci mv : Value) (e : Int) (hE : errK k e ≠ 0) (name : ByteArray) (fv : Value) (w : World) (bo : Nat) (own_bo : Own w bo [.int .u8 k, .int .i64 n, .string t, cn, ci, mv, .int .i64 e] 74) : Calls Try.prog 108 #[.pointer (some ⟨bo, 0, none⟩), .string name, fv] w (Ret w fun u _ => u = .slice none 0 0) := by
 refine enter Try.func108 rfl Try.ntmps108 (lbr rfl) fun a0 y0 zz0 harg => ?_
 have e0 : sl a0 0 = (.pointer (some ⟨bo, 0, none⟩)) := harg 0 (lbr rfl)
 have e1 : sl a0 1 = (.string (name)) := harg 1 (lbr rfl)
 have e2 : sl a0 2 = fv := harg 2 (lbr rfl)
 have kw := Keeps.refl All w
 clear harg
 refine zq fun K1 hK1 => ?_
 refine rg mixed y0 zz0 ?_
 refine .ac ?_
 refine .dn fun a2 g W2 y2 zz2 hk hg hV hR hP => ?_
 obtain ⟨-, -⟩ := hV
 replace e0 := ft hR e0
 replace e1 := ft hR e1
 replace e2 := ft hR e2
 replace own_bo := own_bo.ext hk
 replace kw := kw.x hk
 clear hR hk hg hP
 refine zn (hK1 _ _ ?_)
 refine zq fun K3 hK3 => ?_
 refine rg mixed y2 zz2 ?_
 refine .ac ?_
 refine .dn fun a4 g W4 y4 zz4 hk hg hV hR hP => ?_
 obtain ⟨e7, -⟩ := hV
 replace e0 := ft hR e0
 replace e1 := ft hR e1
 replace e2 := ft hR e2
 replace e7 := e7.q
 replace own_bo := own_bo.ext hk
 replace kw := kw.x hk
 clear hR hk hg hP
 refine zn (hK3 _ _ ?_)
 refine zq fun K5 hK5 => ?_
 refine zq fun K6 hK6 => ?_
 refine rg mixed y4 zz4 ?_
 refine .mb rfl e0 ?_
 refine .i (v := (.int .i64 (errK (k : Nat) e))) (sp_call1 (φ1 := Is (.pointer (some ⟨bo, 0, none⟩))) ent24 (hlc rfl) (fun g u1 W hk hgk h1 => by have h1 : u1 = _ := h1; subst u1; exact Err_ok _ _ _ _ _ _ _ W _ (own_bo.ext hk))) ?_
 refine .i (sp_neq (hlc rfl) Has.cst) ?_
 refine .dn fun a7 g W7 y7 zz7 hk hg hV hR hP => ?_
 obtain ⟨e14, -, -, -⟩ := hV
 replace e0 := ft hR e0
 replace e1 := ft hR e1
 replace e2 := ft hR e2
 replace e7 := ft hR e7
 replace e14 := e14.q
 replace own_bo := own_bo.ext hk
 replace kw := kw.x hk
 clear hR hk hg hP
 refine zn (hK6 _ _ ?_)
 refine zc e14 (fun hc => ?_) (fun hc => ?_)
 ·
  refine zq fun K8 hK8 => ?_
  refine rg mixed y7 zz7 ?_
  refine .mb rfl e7 ?_
  refine .al rfl ?_
  refine .dn fun a9 g W9 y9 zz9 hk hg hV hR hP => ?_
  obtain ⟨e6, -, -⟩ := hV
  replace e6 := e6.q
  replace own_bo := own_bo.ext hk
  replace kw := kw.x hk
  clear hR hk hg hP
  refine zn (hK8 _ _ ?_)
  refine wp_ret ?_
  refine ret1 rfl zz9 e6 ⟨_, rfl, kw, ?_⟩
  exact rfl
 exfalso
 exact hE (by simpa using hc)
set_option maxRecDepth 100000 in
theorem List_ok (x : V) (A : As) (e : Int) (hA : AB 1000000 A) (hx : x.wt ≤ 1073741824) (hxt : x.t.size ≤ maxLen) (name : ByteArray) (most : Int) (w : World) (S : BSet) (cn ci : Value) (bo bm : Nat) (hS : ∀ b o, S b o → Cln o) (hM : ∀ b ∈ [bo, bm], ∀ o, ¬ S b o) (hne : bo ≠ bm) (hv : Rd w S (strsD x.ns) cn) (hu : Rd w S (valsD x.xs) ci) (own_bo : Own w bo [.int .u8 x.k, .int .i64 x.n, .string x.t, cn, ci, .map (some bm), .int .i64 (e)] 74) (own_bm : OwnM w bm A) : Calls Try.prog 46 #[.pointer (some ⟨bo, 0, none⟩), .string name, .int .i64 most] w (RetL w [bo, bm] fun u W => Rd W (Fr w) (valsD (if tkB x e name (listE most) then listV most (getV x name) else [])) u ∧ Own W bo [.int .u8 x.k, .int .i64 x.n, .string x.t, cn, ci, .map (some bm), .int .i64 (tkE x e name (listE most))] 74 ∧ OwnM W bm (tkA x A e name (listE most))) := by
 obtain ⟨cna, cnc, ev, D_cn⟩ := rdS_out (rd_argM (M := [bo, bm]) hv hM)
 subst ev
 obtain ⟨cia, cic, ev, D_ci⟩ := rdVs_out (rd_argM (M := [bo, bm]) hu hM)
 subst ev
 refine enter Try.func46 rfl Try.ntmps46 (lbr rfl) fun a0 y0 zz0 harg => ?_
 have e0 : sl a0 0 = (.pointer (some ⟨bo, 0, none⟩)) := harg 0 (lbr rfl)
 have e1 : sl a0 1 = (.string (name)) := harg 1 (lbr rfl)
 have e2 : sl a0 2 = (.int .i64 (most)) := harg 2 (lbr rfl)
 have kw := Keeps.refl (fun k => k ∉ [bo, bm]) w
 clear harg
 refine zq fun K1 hK1 => ?_
 refine rg mixed y0 zz0 ?_
 refine .boxOp (v := (.int .i64 (most))) (hbs rfl e2) ?_
 refine .ac ?_
 refine .dn fun a2 g W2 y2 zz2 hk hg hV hR hP => ?_
 obtain ⟨-, ⟨b5_2, e5, hb5, own_b5_2⟩, -⟩ := hV
 have lo_b5_2 : w.heap.size ≤ b5_2 := Nat.le_trans kw.size (hg.lo _ _ hb5)
 have ne_bo_b5_2 : bo ≠ b5_2 := Nat.ne_of_lt (Nat.lt_of_lt_of_le own_bo.lt (hg.lo _ _ hb5))
 have ne_bm_b5_2 : bm ≠ b5_2 := Nat.ne_of_lt (Nat.lt_of_lt_of_le own_bm.lt (hg.lo _ _ hb5))
 have own_b5_2 : Own W2 b5_2 [(.int .i64 (most))] 3 := own_b5_2
 replace e0 := ft hR e0
 replace e1 := ft hR e1
 replace D_cn := sa_more D_cn hk [b5_2] (in_cons (hg.lo _ _ hb5) in_nil)
 replace D_ci := sa_more D_ci hk [b5_2] (in_cons (hg.lo _ _ hb5) in_nil)
 replace own_bo := own_bo.ext hk
 replace own_bm := own_bm.ext hk
 replace kw := kw.x hk
 clear hR hk hg hP hb5
 refine zn (hK1 _ _ ?_)
 refine zq fun K3 hK3 => ?_
 refine wp_reg (fun k => k ∉ [bo, bm]) (Ψ := fun W => Own W bo [(.int .u8 (x.k)), (.int .i64 (x.n)), (.string (x.t)), (.slice cna (x.ns.length) cnc), (.slice cia (x.xs.length) cic), (.map (some bm)), (.int .i64 (e))] 74 ∧ OwnM W bm (A)) mixed y2 zz2 (stE_and stE_own stE_ownM) ⟨own_bo, own_bm⟩ ?_
 refine .mb rfl e0 ?_
 refine .mb rfl e1 ?_
 refine .i (v := (.func (.func 109) #[] #[(.pointer (some ⟨b5_2, 0, none⟩))])) (sp_mkF1 (hbs rfl e5)) ?_
 refine .callL3 (φ1 := Is (.pointer (some ⟨bo, 0, none⟩))) (φ2 := Is (.string (name))) (φ3 := Is (.func (.func 109) #[] #[(.pointer (some ⟨b5_2, 0, none⟩))])) (φ := IsD (Fr W2) (valsD (if tkB x e name (listE most) then listV most (getV x name) else []))) (Ψ' := fun W => Own W bo [(.int .u8 (x.k)), (.int .i64 (x.n)), (.string (x.t)), (.slice cna (x.ns.length) cnc), (.slice cia (x.xs.length) cic), (.map (some bm)), (.int .i64 (tkE x e name (listE most)))] 74 ∧ OwnM W bm (tkA x A e name (listE most))) ent108 (hlc rfl) (hlc rfl) (hlc rfl) (st_d (sub_frnl (in_cons own_bo.lt (in_cons own_bm.lt in_nil)))) (stE_and stE_own stE_ownM) (fun g u1 u2 u3 W hk hg h1 h2 h3 hP => by have h1 : u1 = _ := h1; subst u1; have h2 : u2 = _ := h2; subst u2; have h3 : u3 = _ := h3; subst u3; exact (takeL_ok (x) (A) (e) hA hx hxt name 109 #[(.pointer (some ⟨b5_2, 0, none⟩))] (listE most) (listV most) W _ _ _ _ _ (sa_cln hS) (sa_notin (by simp)) hne (sa_keepL D_cn hk (by simp)) (sa_keepL D_ci hk (by simp)) hP.1 hP.2 ent109 (fun W2 hk2 Z y v hy hv2 => list1_ok y most W2 _ v b5_2 hv2 (own_keepL (own_keepL own_b5_2 hk (by simp [ne_bo_b5_2.symm, ne_bm_b5_2.symm])) hk2 (by simp [ne_bo_b5_2.symm, ne_bm_b5_2.symm])))).mono (fun _ _ ⟨v, h1, h2, h3, h4⟩ => ⟨v, h1, h2, fresh_d hk hg h3, h4⟩)) ?_
 refine .op (φ := IsD (Fr W2) (valsD (if tkB x e name (listE most) then listV most (getV x name) else []))) (st_d (sub_frnl (in_cons own_bo.lt (in_cons own_bm.lt in_nil)))) (sp_assign (hlc rfl)) ?_
 refine .dn fun a4 g W4 y4 zz4 hk hg hV hR hP => ?_
 obtain ⟨e6, -, -, -, -, -⟩ := hV
 obtain ⟨v6_4, ev⟩ : ∃ v, sl a4 6 = v := ⟨_, rfl⟩
 rw [ev] at e6
 have D_v6_4 : Rd W4 (SF w [b5_2, bo, bm]) (valsD (if tkB x e name (listE most) then listV most (getV x name) else [])) v6_4 := fr_end (M := [b5_2, bo, bm]) e6 kw [] in_nil (in_cons own_b5_2.lt (in_cons own_bo.lt (in_cons own_bm.lt in_nil)))
 replace e6 := ev; clear ev
 obtain ⟨v6_4a, v6_4c, ev, D2⟩ := rdVs_out D_v6_4
 subst ev; replace D_v6_4 := D2; clear D2
 replace D_cn := sa_keepL D_cn hk (by simp)
 replace D_ci := sa_keepL D_ci hk (by simp)
 replace own_b5_2 := own_keepL own_b5_2 hk (by simp [ne_bo_b5_2.symm, ne_bm_b5_2.symm])
 obtain ⟨own_bo, own_bm⟩ := hP
 replace own_bo : Own W4 bo [(.int .u8 (x.k)), (.int .i64 (x.n)), (.string (x.t)), (.slice cna (x.ns.length) cnc), (.slice cia (x.xs.length) cic), (.map (some bm)), (.int .i64 (tkE x e name (listE most)))] 74 := own_bo
 replace own_bm : OwnM W4 bm (tkA x A e name (listE most)) := own_bm
 replace kw := keeps_L kw hk (in_cons (.inr (by simp)) (in_cons (.inr (by simp)) in_nil))
 clear hR hk hg
 refine zn (hK3 _ _ ?_)
 refine wp_ret ?_
 refine ret1 rfl zz4 e6 ⟨_, rfl, kw, ?_⟩
 exact ⟨sf_fr D_v6_4, own_bo, own_bm⟩
set_option maxRecDepth 100000 in
theorem ListD_ok (k : Nat) (n : Int) (t : ByteArray) (cn ci mv : Value) (e : Int) (hE : errK k e ≠ 0) (name : ByteArray) (most : Int) (w : World) (bo : Nat) (own_bo : Own w bo [.int .u8 k, .int .i64 n, .string t, cn, ci, mv, .int .i64 e] 74) : Calls Try.prog 46 #[.pointer (some ⟨bo, 0, none⟩), .string name, .int .i64 most] w (Ret w fun u _ => u = .slice none 0 0) := by
 refine enter Try.func46 rfl Try.ntmps46 (lbr rfl) fun a0 y0 zz0 harg => ?_
 have e0 : sl a0 0 = (.pointer (some ⟨bo, 0, none⟩)) := harg 0 (lbr rfl)
 have e1 : sl a0 1 = (.string (name)) := harg 1 (lbr rfl)
 have e2 : sl a0 2 = (.int .i64 (most)) := harg 2 (lbr rfl)
 have kw := Keeps.refl All w
 clear harg
 refine zq fun K1 hK1 => ?_
 refine rg mixed y0 zz0 ?_
 refine .boxOp (v := (.int .i64 (most))) (hbs rfl e2) ?_
 refine .ac ?_
 refine .dn fun a2 g W2 y2 zz2 hk hg hV hR hP => ?_
 obtain ⟨-, ⟨b5_2, e5, hb5, own_b5_2⟩, -⟩ := hV
 have lo_b5_2 : w.heap.size ≤ b5_2 := Nat.le_trans kw.size (hg.lo _ _ hb5)
 have ne_bo_b5_2 : bo ≠ b5_2 := Nat.ne_of_lt (Nat.lt_of_lt_of_le own_bo.lt (hg.lo _ _ hb5))
 have own_b5_2 : Own W2 b5_2 [(.int .i64 (most))] 3 := own_b5_2
 replace e0 := ft hR e0
 replace e1 := ft hR e1
 replace own_bo := own_bo.ext hk
 replace kw := kw.x hk
 clear hR hk hg hP hb5
 refine zn (hK1 _ _ ?_)
 refine zq fun K3 hK3 => ?_
 refine rg mixed y2 zz2 ?_
 refine .mb rfl e0 ?_
 refine .mb rfl e1 ?_
 refine .i (v := (.func (.func 109) #[] #[(.pointer (some ⟨b5_2, 0, none⟩))])) (sp_mkF1 (hbs rfl e5)) ?_
 refine .i (v := (.slice none 0 0)) (sp_call3 (φ1 := Is (.pointer (some ⟨bo, 0, none⟩))) (φ2 := Is (.string (name))) (φ3 := Is (.func (.func 109) #[] #[(.pointer (some ⟨b5_2, 0, none⟩))])) ent108 (hlc rfl) (hlc rfl) (hlc rfl) (fun g u1 u2 u3 W hk hgk h1 h2 h3 => by have h1 : u1 = _ := h1; subst u1; have h2 : u2 = _ := h2; subst u2; have h3 : u3 = _ := h3; subst u3; exact takeLD_ok _ _ _ _ _ _ _ hE _ _ W _ (own_bo.ext hk))) ?_
 refine .al rfl ?_
 refine .dn fun a4 g W4 y4 zz4 hk hg hV hR hP => ?_
 obtain ⟨e6, -, -, -, -, -⟩ := hV
 replace e6 := e6.q
 replace own_bo := own_bo.ext hk
 replace own_b5_2 := own_b5_2.ext hk
 replace kw := kw.x hk
 clear hR hk hg hP
 refine zn (hK3 _ _ ?_)
 refine wp_ret ?_
 refine ret1 rfl zz4 e6 ⟨_, rfl, kw, ?_⟩
 exact rfl
end Go.Proofs.Ytnobijngkpflcaa
namespace Go.Proofs.Ytnobijngkpflcaa
open Go.Eng
set_option maxRecDepth 100000 in
theorem long11_ok (l : List Cl) (w : World) (S : BSet) (v : Value) (hv : Rd w S (clsD l) v) : Calls Try.prog 27 #[v] w (Ret w fun u _ => u = .bool (decide (5000 ≤ szC l 0))) := by
 have hmx : l.length ≤ maxLen := rdCls_len hv
 simp only [maxLen] at hmx
 obtain ⟨va, vc, ev, D_v⟩ := rdCls_out (rd_arg hv)
 subst ev
 refine enter Try.func27 rfl Try.ntmps27 (lbr rfl) fun a0 y0 zz0 harg => ?_
 have e0 : sl a0 0 = (.slice va (l.length) vc) := harg 0 (lbr rfl)
 have kw := Keeps.refl All w
 clear harg
 refine zq fun K1 hK1 => ?_
 refine rg mixed y0 zz0 ?_
 refine .ac ?_
 refine .dn fun a2 g W2 y2 zz2 hk hg hV hR hP => ?_
 obtain ⟨-, -⟩ := hV
 replace e0 := ft hR e0
 replace D_v := D_v.ext hk
 replace kw := kw.x hk
 clear hR hk hg hP
 refine zn (hK1 _ _ ?_)
 refine zq fun K3 hK3 => ?_
 refine rg mixed y2 zz2 ?_
 refine .ac ?_
 refine .dn fun a4 g W4 y4 zz4 hk hg hV hR hP => ?_
 obtain ⟨e3, -⟩ := hV
 replace e0 := ft hR e0
 replace D_v := D_v.ext hk
 replace e3 := e3.q
 replace kw := kw.x hk
 clear hR hk hg hP
 refine zn (hK3 _ _ ?_)
 refine zq fun K5 hK5 => ?_
 refine zq fun K6 hK6 => ?_
 refine rg mixed y4 zz4 ?_
 refine .ac ?_
 refine .dn fun a7 g W7 y7 zz7 hk hg hV hR hP => ?_
 obtain ⟨e4, -⟩ := hV
 replace e0 := ft hR e0
 replace e3 := ft hR e3
 replace D_v := D_v.ext hk
 replace e4 := e4.q
 replace kw := kw.x hk
 clear hR hk hg hP
 refine zn (hK6 _ _ ?_)
 refine wp_block ?_
 refine wp_for (l.length) (fun k a W => ∃ (n2 : Nat), a.tmps.size = 27 ∧ a.defers = [] ∧ Keeps All w W ∧ sl a 0 = (.slice va (l.length) vc) ∧ sl a 3 = (.int .i64 ((n2 : Nat))) ∧ sl a 4 = (.int .i64 ((k : Nat))) ∧ Rd W (SA w S []) (clsD (l)) (.slice va (l.length) vc) ∧ (szC l 0 = szC (l.drop k) n2) ∧ (n2 ≤ 20020)) ⟨0, y7, zz7, kw, e0, (e3.trans (congrArg (Value.int .i64) (rfl))), (e4.trans (congrArg (Value.int .i64) (rfl))), D_v, rfl, by omega⟩ ?_
 clear kw e0 e3 e4 D_v
 rintro k a8 W8 hkk ⟨n2, y8, zz8, kw, e0, e3, e4, D_v, hin, hb2⟩
 refine zq fun K9 hK9 => ?_
 refine zq fun K10 hK10 => ?_
 refine rg mixed y8 zz8 ?_
 refine .mb rfl e4 ?_
 refine .mb rfl e0 ?_
 refine .i (sp_lenL Try.underlying46 ((hlc rfl).dat D_v sub_all)) ?_
 refine .i (sp_lss (hlc rfl) (hlc rfl)) ?_
 refine .i (sp_move (hlc rfl)) ?_
 refine .em rfl (hlc rfl) rfl e3 ?_
 refine .e rfl (hlc rfl) (fun hg => sp_lss ((hlc rfl).undE hg) Has.cst) ?_
 refine .i (sp_and (hlc rfl) ((hlc rfl).weak fun hq => hq)) ?_
 refine .dn fun a11 g W11 y11 zz11 hk hg hV hR hP => ?_
 obtain ⟨e12, -, -, -, -, -, -, -, -⟩ := hV
 replace e0 := ft hR e0
 replace e3 := ft hR e3
 replace e4 := ft hR e4
 replace D_v := D_v.ext hk
 replace e12 := e12.q
 replace kw := kw.x hk
 clear hR hk hg hP
 refine zn (hK10 _ _ ?_)
 refine zc e12 (fun hc => ?_) (fun hc => ?_)
 ·
  simp at hc
  obtain ⟨hlt, hn5⟩ := hc
  have hn3 : n2 < 5000 := by omega
  rw [List.drop_eq_getElem_cons hlt, szC, if_pos hn3] at hin
  refine wp_skip (hK9 _ _ ?_)
  refine zq fun K12 hK12 => ?_
  refine wp_block ?_
  refine rg mixed y11 zz11 ?_
  refine .mb rfl e3 ?_
  refine .i (sp_add (hlc rfl) Has.cst (i64_in (by omega))) ?_
  refine .mb rfl e0 ?_
  refine .mb rfl e4 ?_
  refine .rf (X := SA w S []) (e := Cl.d (l[k]'hlt)) (sp_indexL (i := k) ((hlc rfl).dat D_v sub_all) (hlc rfl) Try.underlying46 sz54 rfl hlt) ?_
  refine .rf (X := SA w S []) (e := D.str ((l[k]'hlt).nm)) (sp_fieldR (hlc rfl) Try.underlying54 rfl sz9 rfl (by first | rfl | simp [widths, width, hssD, width_V])) ?_
  refine .i (sp_loadStr (hlc rfl) agg9 sz9) ?_
  refine .i (sp_lenS Try.underlying9 (hlc rfl)) ?_
  refine .i (sp_min Has.cst (hlc rfl)) ?_
  refine .i (sp_add (hlc rfl) (hlc rfl) (i64_in (by omega))) ?_
  refine .al rfl ?_
  refine .dn fun a13 g W13 y13 zz13 hk hg hV hR hP => ?_
  obtain ⟨e3, -, -, -, -, -, -, -, -, -, -, -⟩ := hV
  replace e0 := ft hR e0
  replace e4 := ft hR e4
  replace D_v := D_v.ext hk
  replace e3 := e3.q
  replace kw := kw.x hk
  clear hR hk hg hP
  refine zn (hK12 _ _ ?_)
  refine rg mixed y13 zz13 ?_
  refine .mb rfl e4 ?_
  refine .i (sp_add (hlc rfl) Has.cst (i64_in (by omega))) ?_
  refine .al rfl ?_
  refine .dn fun a14 g W14 y14 zz14 hk hg hV hR hP => ?_
  obtain ⟨e4, -, -, -⟩ := hV
  replace e0 := ft hR e0
  replace e3 := ft hR e3
  replace D_v := D_v.ext hk
  replace e4 := e4.q
  replace kw := kw.x hk
  clear hR hk hg hP
  exact tail_nil ⟨hlt, (n2 + 10 + min 5000 (l[k]'hlt).nm.size), y14, zz14, kw, e0, (e3.trans (congrArg (Value.int .i64) (by push_cast; omega))), (e4.trans (congrArg (Value.int .i64) (by simp))), D_v, hin, by omega⟩
 have hfin : szC l 0 = n2 := by
  rw [hin]; simp at hc
  by_cases hlt : k < l.length
  · exact szC_big _ (by have := hc hlt; omega)
  · rw [List.drop_eq_nil_of_le (by omega)]; rfl
 refine wp_exit (hK5 _ _ ?_)
 refine zq fun K15 hK15 => ?_
 refine rg mixed y11 zz11 ?_
 refine .mb rfl e3 ?_
 refine .i (sp_geq (hlc rfl) Has.cst) ?_
 refine .al rfl ?_
 refine .dn fun a16 g W16 y16 zz16 hk hg hV hR hP => ?_
 obtain ⟨e2, -, -, -⟩ := hV
 replace D_v := D_v.ext hk
 replace e2 := e2.q
 replace kw := kw.x hk
 clear hR hk hg hP
 refine zn (hK15 _ _ ?_)
 refine wp_ret ?_
 refine ret1 rfl zz16 e2 ⟨_, rfl, kw, ?_⟩
 rw [hfin]
 exact congrArg Value.bool (decide_eq_decide.2 (by omega))
end Go.Proofs.Ytnobijngkpflcaa
namespace Go.Proofs.Ytnobijngkpflcaa
open Go.Eng
abbrev awO : V := objM ([Mb.mk (⟨#[98]⟩) (V.mk (3) (0) (⟨#[120]⟩) ([]) ([])), Mb.mk (⟨#[97]⟩) (V.mk (2) (1) (⟨#[]⟩) ([]) ([]))])
set_option maxRecDepth 100000 in
set_option maxHeartbeats 2000000 in
theorem awake11_ok (w : World) : Calls Try.prog 28 #[] w (Ret w fun u _ => u = .bool true) := by
 refine enter Try.func28 rfl Try.ntmps28 (lbr rfl) fun a0 y0 zz0 harg => ?_
 have kw := Keeps.refl All w
 clear harg
 refine zq fun K1 hK1 => ?_
 refine rg mixed y0 zz0 ?_
 refine .ac ?_
 refine .dn fun a2 g W2 y2 zz2 hk hg hV hR hP => ?_
 obtain ⟨-, -⟩ := hV
 replace kw := kw.x hk
 clear hR hk hg hP
 refine zn (hK1 _ _ ?_)
 refine zq fun K3 hK3 => ?_
 refine rg mixed y2 zz2 ?_
 refine .i (v := (.agg #[(.int .u8 (3)), (.int .i64 (0)), (.string (⟨#[120]⟩)), (.slice none 0 0), (.slice none 0 0)])) (sp_call1 (φ1 := Is (.string (⟨#[120]⟩))) ent37 Has.cst (fun g u1 W hk hgk h1 => by have h1 : u1 = _ := h1; subst u1; exact pkText_ok (⟨#[120]⟩) W)) ?_
 refine .i (v := (.agg #[(.string (⟨#[98]⟩)), (.int .u8 (3)), (.int .i64 (0)), (.string (⟨#[120]⟩)), (.slice none 0 0), (.slice none 0 0)])) (sp_build (vs := [(0, (.string (⟨#[98]⟩))), (1, (.agg #[(.int .u8 (3)), (.int .i64 (0)), (.string (⟨#[120]⟩)), (.slice none 0 0), (.slice none 0 0)]))]) Try.underlying67 z67 (pl67 Try.underlying67) ⟨rfl, Has.cst, rfl, (hlc rfl), trivial⟩ (by kernel_rfl)) ?_
 refine .i (v := (.agg #[(.int .u8 (2)), (.int .i64 (1)), (.string (⟨#[]⟩)), (.slice none 0 0), (.slice none 0 0)])) (sp_call1 (φ1 := Is (.int .i64 (1))) ent39 Has.cst (fun g u1 W hk hgk h1 => by have h1 : u1 = _ := h1; subst u1; exact pkNum_ok (1) W)) ?_
 refine .i (v := (.agg #[(.string (⟨#[97]⟩)), (.int .u8 (2)), (.int .i64 (1)), (.string (⟨#[]⟩)), (.slice none 0 0), (.slice none 0 0)])) (sp_build (vs := [(0, (.string (⟨#[97]⟩))), (1, (.agg #[(.int .u8 (2)), (.int .i64 (1)), (.string (⟨#[]⟩)), (.slice none 0 0), (.slice none 0 0)]))]) Try.underlying67 z67 (pl67 Try.underlying67) ⟨rfl, Has.cst, rfl, (hlc rfl), trivial⟩ (by kernel_rfl)) ?_
 refine .da (X := SF w []) (e := mbsD ([Mb.mk (⟨#[98]⟩) (V.mk (3) (0) (⟨#[120]⟩) ([]) ([])), Mb.mk (⟨#[97]⟩) (V.mk (2) (1) (⟨#[]⟩) ([]) ([]))])) (sp_bsl (ds := [Mb.d (Mb.mk (⟨#[98]⟩) (V.mk (3) (0) (⟨#[120]⟩) ([]) ([]))), Mb.d (Mb.mk (⟨#[97]⟩) (V.mk (2) (1) (⟨#[]⟩) ([]) ([])))]) Try.underlying82 sz67 z67 (lbr rfl) (lbr rfl) ⟨rfl, ((hlc rfl).dat (rdMb_mk (lbr rfl) (rdV_mk (Nat.le_of_ble_eq_true (by kernel_rfl)) (rd_nil _) (rd_nil _) : Rd W2 (SF w []) (V.d (V.mk (3) (0) (⟨#[120]⟩) ([]) ([]))) _) : Rd W2 (SF w []) (Mb.d (Mb.mk (⟨#[98]⟩) (V.mk (3) (0) (⟨#[120]⟩) ([]) ([])))) _) sub_all), ⟨rfl, ((hlc rfl).dat (rdMb_mk (lbr rfl) (rdV_mk (by decide) (rd_nil _) (rd_nil _) : Rd W2 (SF w []) (V.d (V.mk (2) (1) (⟨#[]⟩) ([]) ([]))) _) : Rd W2 (SF w []) (Mb.d (Mb.mk (⟨#[97]⟩) (V.mk (2) (1) (⟨#[]⟩) ([]) ([])))) _) sub_all), trivial⟩⟩ rfl (by intro e he; simp at he; rcases he with rfl | rfl <;> exact width_Mb _) (fr_sf kw in_nil)) ?_
 refine .op (φ := IsT (IsD (Fr W2) (V.d awO)) (Is (.int .i64 (objE ([Mb.mk (⟨#[98]⟩) (V.mk (3) (0) (⟨#[120]⟩) ([]) ([])), Mb.mk (⟨#[97]⟩) (V.mk (2) (1) (⟨#[]⟩) ([]) ([]))]))))) (st_t (st_d sub_all) (st_is _)) (sp_call1 (φ1 := IsD (SF w []) (mbsD ([Mb.mk (⟨#[98]⟩) (V.mk (3) (0) (⟨#[120]⟩) ([]) ([])), Mb.mk (⟨#[97]⟩) (V.mk (2) (1) (⟨#[]⟩) ([]) ([]))]))) ent38 (hlc rfl) (fun g u1 W hk hgk h1 => (ObjectOf_ok ([Mb.mk (⟨#[98]⟩) (V.mk (3) (0) (⟨#[120]⟩) ([]) ([])), Mb.mk (⟨#[97]⟩) (V.mk (2) (1) (⟨#[]⟩) ([]) ([]))]) (lbr rfl) (lbr rfl) (obw_of (by kernel_rfl)) W _ _ (fun b o h => h.1.2.1) h1).mono (fun _ _ ⟨v, h1, h2, r1, h3, h4⟩ => ⟨v, h1, h2, r1, _, h3, fresh_d hk hgk h4, rfl⟩))) ?_
 refine .op (φ := IsT (IsD (Fr W2) (V.d awO)) (Is (.int .i64 (objE ([Mb.mk (⟨#[98]⟩) (V.mk (3) (0) (⟨#[120]⟩) ([]) ([])), Mb.mk (⟨#[97]⟩) (V.mk (2) (1) (⟨#[]⟩) ([]) ([]))]))))) (st_t (st_d sub_all) (st_is _)) (sp_move (hlc rfl)) ?_
 refine .da (X := Fr W2) (e := V.d awO) (sp_ext2 (hlc rfl) rfl) ?_
 refine .i (v := (.int .i64 (objE ([Mb.mk (⟨#[98]⟩) (V.mk (3) (0) (⟨#[120]⟩) ([]) ([])), Mb.mk (⟨#[97]⟩) (V.mk (2) (1) (⟨#[]⟩) ([]) ([]))])))) (sp_ext2' (hlc rfl) rfl) ?_
 refine .alloc z33 ?_
 refine .dn fun a4 g W4 y4 zz4 hk hg hV hR hP => ?_
 obtain ⟨⟨b1_4, e1, hb1, own_b1_4⟩, e16, e15, -, -, -, -, -, -, -, -⟩ := hV
 have lo_b1_4 : w.heap.size ≤ b1_4 := Nat.le_trans kw.size (hg.lo _ _ hb1)
 have own_b1_4 : Own W4 b1_4 z5C 33 := own_b1_4
 obtain ⟨v15_4, ev⟩ : ∃ v, sl a4 15 = v := ⟨_, rfl⟩
 rw [ev] at e15
 have D_v15_4 : Rd W4 (SF w [b1_4]) (V.d awO) v15_4 := fr_end (M := []) e15 kw [b1_4] (in_cons ⟨_, hb1⟩ in_nil) in_nil
 replace e15 := ev; clear ev
 obtain ⟨cn15_4a, cn15_4c, ci15_4a, ci15_4c, ev, ht_v15_4, D_cn15_4, D_ci15_4⟩ := rdV_out D_v15_4
 subst ev; clear D_v15_4
 replace e16 := e16.q
 replace kw := kw.x hk
 clear hR hk hg hP hb1
 refine tail_store e1 e15 sz33 rfl own_b1_4 (lbr rfl) (all_cons rfl (all_cons rfl (all_cons rfl (all_cons rfl (all_cons rfl all_nil))))) (fun W5 hs own_b1_4 => ?_)
 have own_b1_4 : Own W5 b1_4 [(.int .u8 (awO.k)), (.int .i64 (awO.n)), (.string (awO.t)), (.slice cn15_4a ((awO.ns).length) cn15_4c), (.slice ci15_4a ((awO.xs).length) ci15_4c)] 33 := own_b1_4
 replace D_cn15_4 := sf_store D_cn15_4 hs (by simp)
 replace D_ci15_4 := sf_store D_ci15_4 hs (by simp)
 replace kw := keeps_store kw hs lo_b1_4
 clear hs
 refine tail_assign (v := (.int .i64 (objE ([Mb.mk (⟨#[98]⟩) (V.mk (3) (0) (⟨#[120]⟩) ([]) ([])), Mb.mk (⟨#[97]⟩) (V.mk (2) (1) (⟨#[]⟩) ([]) ([]))])))) e16 (by rw [y4]; exact Nat.le_of_ble_eq_true rfl) (fun a6 y6 zz6 e2 hr => ?_)
 replace y6 := y6.trans y4; replace zz6 := zz6.trans zz4
 replace e1 := (hr 1 (by decide)).trans e1
 replace e15 := (hr 15 (by decide)).trans e15
 replace e16 := (hr 16 (by decide)).trans e16
 clear hr
 refine zn (hK3 _ _ ?_)
 refine zq fun K7 hK7 => ?_
 refine rg mixed y6 zz6 ?_
 refine .i (v := (.agg #[(.string (⟨#[97]⟩)), (.int .u8 (0)), (.int .i64 (0)), (.string (⟨#[]⟩)), (.slice none 0 0), (.slice none 0 0)])) (sp_build (vs := [(0, (.string (⟨#[97]⟩)))]) Try.underlying67 z67 (pl67 Try.underlying67) ⟨rfl, Has.cst, trivial⟩ rfl) ?_
 refine .i (v := (.agg #[(.string (⟨#[97]⟩)), (.int .u8 (0)), (.int .i64 (0)), (.string (⟨#[]⟩)), (.slice none 0 0), (.slice none 0 0)])) (sp_build (vs := [(0, (.string (⟨#[97]⟩)))]) Try.underlying67 z67 (pl67 Try.underlying67) ⟨rfl, Has.cst, trivial⟩ rfl) ?_
 refine .da (X := SF w [b1_4]) (e := mbsD ([Mb.mk (⟨#[97]⟩) (V.mk (0) (0) (⟨#[]⟩) ([]) ([])), Mb.mk (⟨#[97]⟩) (V.mk (0) (0) (⟨#[]⟩) ([]) ([]))])) (sp_bsl (ds := [Mb.d (Mb.mk (⟨#[97]⟩) (V.mk (0) (0) (⟨#[]⟩) ([]) ([]))), Mb.d (Mb.mk (⟨#[97]⟩) (V.mk (0) (0) (⟨#[]⟩) ([]) ([])))]) Try.underlying82 sz67 z67 (lbr rfl) (lbr rfl) ⟨rfl, ((hlc rfl).dat (rdMb_mk (lbr rfl) (rdV_mk (lbr rfl) (rd_nil _) (rd_nil _) : Rd W5 (SF w [b1_4]) (V.d (V.mk (0) (0) (⟨#[]⟩) ([]) ([]))) _) : Rd W5 (SF w [b1_4]) (Mb.d (Mb.mk (⟨#[97]⟩) (V.mk (0) (0) (⟨#[]⟩) ([]) ([])))) _) sub_all), ⟨rfl, ((hlc rfl).dat (rdMb_mk (lbr rfl) (rdV_mk (lbr rfl) (rd_nil _) (rd_nil _) : Rd W5 (SF w [b1_4]) (V.d (V.mk (0) (0) (⟨#[]⟩) ([]) ([]))) _) : Rd W5 (SF w [b1_4]) (Mb.d (Mb.mk (⟨#[97]⟩) (V.mk (0) (0) (⟨#[]⟩) ([]) ([])))) _) sub_all), trivial⟩⟩ rfl (by intro e he; simp at he; rcases he with rfl | rfl <;> exact width_Mb _) (fr_sf kw (in_cons own_b1_4.lt in_nil))) ?_
 refine .op (φ := IsT (IsD (Fr W5) (V.d (objM ([Mb.mk (⟨#[97]⟩) (V.mk (0) (0) (⟨#[]⟩) ([]) ([])), Mb.mk (⟨#[97]⟩) (V.mk (0) (0) (⟨#[]⟩) ([]) ([]))])))) (Is (.int .i64 (objE ([Mb.mk (⟨#[97]⟩) (V.mk (0) (0) (⟨#[]⟩) ([]) ([])), Mb.mk (⟨#[97]⟩) (V.mk (0) (0) (⟨#[]⟩) ([]) ([]))]))))) (st_t (st_d sub_all) (st_is _)) (sp_call1 (φ1 := IsD (SF w [b1_4]) (mbsD ([Mb.mk (⟨#[97]⟩) (V.mk (0) (0) (⟨#[]⟩) ([]) ([])), Mb.mk (⟨#[97]⟩) (V.mk (0) (0) (⟨#[]⟩) ([]) ([]))]))) ent38 (hlc rfl) (fun g u1 W hk hgk h1 => (ObjectOf_ok ([Mb.mk (⟨#[97]⟩) (V.mk (0) (0) (⟨#[]⟩) ([]) ([])), Mb.mk (⟨#[97]⟩) (V.mk (0) (0) (⟨#[]⟩) ([]) ([]))]) (lbr rfl) (lbr rfl) (obw_of (by kernel_rfl)) W _ _ (fun b o h => h.1.2.1) h1).mono (fun _ _ ⟨v, h1, h2, r1, h3, h4⟩ => ⟨v, h1, h2, r1, _, h3, fresh_d hk hgk h4, rfl⟩))) ?_
 refine .op (φ := IsT (IsD (Fr W5) (V.d (objM ([Mb.mk (⟨#[97]⟩) (V.mk (0) (0) (⟨#[]⟩) ([]) ([])), Mb.mk (⟨#[97]⟩) (V.mk (0) (0) (⟨#[]⟩) ([]) ([]))])))) (Is (.int .i64 (objE ([Mb.mk (⟨#[97]⟩) (V.mk (0) (0) (⟨#[]⟩) ([]) ([])), Mb.mk (⟨#[97]⟩) (V.mk (0) (0) (⟨#[]⟩) ([]) ([]))]))))) (st_t (st_d sub_all) (st_is _)) (sp_move (hlc rfl)) ?_
 refine .da (X := Fr W5) (e := V.d (objM ([Mb.mk (⟨#[97]⟩) (V.mk (0) (0) (⟨#[]⟩) ([]) ([])), Mb.mk (⟨#[97]⟩) (V.mk (0) (0) (⟨#[]⟩) ([]) ([]))]))) (sp_ext2 (hlc rfl) rfl) ?_
 refine .i (v := (.int .i64 (objE ([Mb.mk (⟨#[97]⟩) (V.mk (0) (0) (⟨#[]⟩) ([]) ([])), Mb.mk (⟨#[97]⟩) (V.mk (0) (0) (⟨#[]⟩) ([]) ([]))])))) (sp_ext2' (hlc rfl) rfl) ?_
 refine .alloc z33 ?_
 refine .dn fun a8 g W8 y8 zz8 hk hg hV hR hP => ?_
 obtain ⟨⟨b3_8, e3, hb3, own_b3_8⟩, e23, e22, -, -, -, -, -, -⟩ := hV
 have lo_b3_8 : w.heap.size ≤ b3_8 := Nat.le_trans kw.size (hg.lo _ _ hb3)
 have ne_b1_4_b3_8 : b1_4 ≠ b3_8 := Nat.ne_of_lt (Nat.lt_of_lt_of_le own_b1_4.lt (hg.lo _ _ hb3))
 have own_b3_8 : Own W8 b3_8 z5C 33 := own_b3_8
 replace e1 := ft hR e1
 replace e2 := ft hR e2
 replace D_cn15_4 := sf_more D_cn15_4 hk [b3_8] (in_cons (hg.lo _ _ hb3) in_nil)
 replace D_ci15_4 := sf_more D_ci15_4 hk [b3_8] (in_cons (hg.lo _ _ hb3) in_nil)
 obtain ⟨v22_8, ev⟩ : ∃ v, sl a8 22 = v := ⟨_, rfl⟩
 rw [ev] at e22
 have D_v22_8 : Rd W8 (SF w [b3_8, b1_4]) (V.d (objM ([Mb.mk (⟨#[97]⟩) (V.mk (0) (0) (⟨#[]⟩) ([]) ([])), Mb.mk (⟨#[97]⟩) (V.mk (0) (0) (⟨#[]⟩) ([]) ([]))]))) v22_8 := fr_end (M := [b1_4]) e22 kw [b3_8] (in_cons ⟨_, hb3⟩ in_nil) (in_cons own_b1_4.lt in_nil)
 replace e22 := ev; clear ev
 obtain ⟨cn22_8a, cn22_8c, ci22_8a, ci22_8c, ev, ht_v22_8, D_cn22_8, D_ci22_8⟩ := rdV_out D_v22_8
 subst ev; clear D_v22_8
 replace e23 := e23.q
 replace own_b1_4 := own_b1_4.ext hk
 replace kw := kw.x hk
 clear hR hk hg hP hb3
 refine tail_store e3 e22 sz33 rfl own_b3_8 (lbr rfl) (all_cons rfl (all_cons rfl (all_cons rfl (all_cons rfl (all_cons rfl all_nil))))) (fun W9 hs own_b3_8 => ?_)
 have own_b3_8 : Own W9 b3_8 [(.int .u8 ((objM ([Mb.mk (⟨#[97]⟩) (V.mk (0) (0) (⟨#[]⟩) ([]) ([])), Mb.mk (⟨#[97]⟩) (V.mk (0) (0) (⟨#[]⟩) ([]) ([]))])).k)), (.int .i64 ((objM ([Mb.mk (⟨#[97]⟩) (V.mk (0) (0) (⟨#[]⟩) ([]) ([])), Mb.mk (⟨#[97]⟩) (V.mk (0) (0) (⟨#[]⟩) ([]) ([]))])).n)), (.string ((objM ([Mb.mk (⟨#[97]⟩) (V.mk (0) (0) (⟨#[]⟩) ([]) ([])), Mb.mk (⟨#[97]⟩) (V.mk (0) (0) (⟨#[]⟩) ([]) ([]))])).t)), (.slice cn22_8a (((objM ([Mb.mk (⟨#[97]⟩) (V.mk (0) (0) (⟨#[]⟩) ([]) ([])), Mb.mk (⟨#[97]⟩) (V.mk (0) (0) (⟨#[]⟩) ([]) ([]))])).ns).length) cn22_8c), (.slice ci22_8a (((objM ([Mb.mk (⟨#[97]⟩) (V.mk (0) (0) (⟨#[]⟩) ([]) ([])), Mb.mk (⟨#[97]⟩) (V.mk (0) (0) (⟨#[]⟩) ([]) ([]))])).xs).length) ci22_8c)] 33 := own_b3_8
 replace own_b1_4 := own_store own_b1_4 hs ne_b1_4_b3_8
 replace D_cn15_4 := sf_store D_cn15_4 hs (by simp)
 replace D_ci15_4 := sf_store D_ci15_4 hs (by simp)
 replace D_cn22_8 := sf_store D_cn22_8 hs (by simp)
 replace D_ci22_8 := sf_store D_ci22_8 hs (by simp)
 replace kw := keeps_store kw hs lo_b3_8
 clear hs
 refine tail_assign (v := (.int .i64 (objE ([Mb.mk (⟨#[97]⟩) (V.mk (0) (0) (⟨#[]⟩) ([]) ([])), Mb.mk (⟨#[97]⟩) (V.mk (0) (0) (⟨#[]⟩) ([]) ([]))])))) e23 (by rw [y8]; exact Nat.le_of_ble_eq_true rfl) (fun a10 y10 zz10 e4 hr => ?_)
 replace y10 := y10.trans y8; replace zz10 := zz10.trans zz8
 replace e1 := (hr 1 (by decide)).trans e1
 replace e2 := (hr 2 (by decide)).trans e2
 replace e3 := (hr 3 (by decide)).trans e3
 replace e22 := (hr 22 (by decide)).trans e22
 replace e23 := (hr 23 (by decide)).trans e23
 clear hr
 refine zn (hK7 _ _ ?_)
 refine zq fun K11 hK11 => ?_
 refine zq fun K12 hK12 => ?_
 refine rg mixed y10 zz10 ?_
 refine .mb rfl e2 ?_
 refine .i (sp_neq (hlc rfl) Has.cst) ?_
 refine .i (sp_move (hlc rfl)) ?_
 refine .em rfl (hlc rfl) rfl e4 ?_
 refine .e rfl (hlc rfl) (fun hg => sp_neq ((hlc rfl).undE hg) Has.cst) ?_
 refine .i (sp_or (hlc rfl) ((hlc rfl).weak fun hq => hq)) ?_
 refine .i (sp_move (hlc rfl)) ?_
 refine .e (v := (.agg #[(.int .u8 (awO.k)), (.int .i64 (awO.n)), (.string (awO.t)), (.slice cn15_4a ((awO.ns).length) cn15_4c), (.slice ci15_4a ((awO.xs).length) ci15_4c)])) rfl (hlc rfl) (fun hg => loA (hbs rfl e1) own_b1_4 trivial agg33 sz33 rfl rfl) ?_
 refine .opE (t := 30) (φ := IsD (SF w [b3_8, b1_4]) (strsD ([⟨#[97]⟩, ⟨#[98]⟩]))) rfl (hlc rfl) (st_d sub_all) (fun hg => sp_bsl (ds := [D.str (⟨#[97]⟩), D.str (⟨#[98]⟩)]) Try.underlying23 sz9 z9 (lbr rfl) (lbr rfl) ⟨rfl, (Has.cst.str (lbr rfl)), ⟨rfl, (Has.cst.str (lbr rfl)), trivial⟩⟩ rfl (by simp [width]) (fr_sf kw (in_cons own_b3_8.lt (in_cons own_b1_4.lt in_nil)))) ?_
 refine .e (v := (.agg #[(.int .u8 (2)), (.int .i64 (1)), (.string (⟨#[]⟩)), (.slice none 0 0), (.slice none 0 0)])) rfl (hlc rfl) (fun hg => sp_build (vs := [(0, (.int .u8 (2))), (1, (.int .i64 (1)))]) Try.underlying33 z33 (pl33 Try.underlying33) ⟨rfl, Has.cst, rfl, Has.cst, trivial⟩ rfl) ?_
 refine .e (v := (.agg #[(.int .u8 (3)), (.int .i64 (0)), (.string (⟨#[120]⟩)), (.slice none 0 0), (.slice none 0 0)])) rfl (hlc rfl) (fun hg => sp_build (vs := [(0, (.int .u8 (3))), (2, (.string (⟨#[120]⟩)))]) Try.underlying33 z33 (pl33 Try.underlying33) ⟨rfl, Has.cst, rfl, Has.cst, trivial⟩ rfl) ?_
 refine .opE (t := 30) (φ := IsD (SF w [b3_8, b1_4]) (valsD ([V.mk (2) (1) (⟨#[]⟩) ([]) ([]), V.mk (3) (0) (⟨#[120]⟩) ([]) ([])]))) rfl (hlc rfl) (st_d sub_all) (fun hg => sp_bsl (ds := [V.d (V.mk (2) (1) (⟨#[]⟩) ([]) ([])), V.d (V.mk (3) (0) (⟨#[120]⟩) ([]) ([]))]) Try.underlying31 sz33 z33 (lbr rfl) (lbr rfl) ⟨rfl, (((hlc rfl).undE hg).dat (rdV_mk (lbr rfl) (rd_nil _) (rd_nil _) : Rd W9 (SF w [b3_8, b1_4]) (V.d (V.mk (2) (1) (⟨#[]⟩) ([]) ([]))) _) sub_all), ⟨rfl, (((hlc rfl).undE hg).dat (rdV_mk (lbr rfl) (rd_nil _) (rd_nil _) : Rd W9 (SF w [b3_8, b1_4]) (V.d (V.mk (3) (0) (⟨#[120]⟩) ([]) ([]))) _) sub_all), trivial⟩⟩ rfl (by intro e he; simp at he; rcases he with rfl | rfl <;> exact width_V _) (fr_sf kw (in_cons own_b3_8.lt (in_cons own_b1_4.lt in_nil)))) ?_
 refine .opE (t := 30) (φ := IsD (SF w [b3_8, b1_4]) (V.d (V.mk (5) (0) (⟨#[]⟩) ([⟨#[97]⟩, ⟨#[98]⟩]) ([V.mk (2) (1) (⟨#[]⟩) ([]) ([]), V.mk (3) (0) (⟨#[120]⟩) ([]) ([])])))) rfl (hlc rfl) (st_d sub_all) (fun hg => sp_buildD (zd := [.int .u8 0, .int .i64 0, .str ⟨#[]⟩, strsD [], valsD []]) (es := [(0, D.int .u8 (5)), (3, strsD ([⟨#[97]⟩, ⟨#[98]⟩])), (4, valsD ([V.mk (2) (1) (⟨#[]⟩) ([]) ([]), V.mk (3) (0) (⟨#[120]⟩) ([]) ([])]))]) Try.underlying33 z33 (pl33 Try.underlying33) ⟨rfl, Has.cst.int, ⟨rfl, ((hlc rfl).undE hg), ⟨rfl, ((hlc rfl).undE hg), trivial⟩⟩⟩ zV rfl (by simp [fits, width, strsD, valsD]) (by rw [V.d_eq]; rfl)) ?_
 refine .e (v := (.bool (V.beq awO (V.mk (5) (0) (⟨#[]⟩) ([⟨#[97]⟩, ⟨#[98]⟩]) ([V.mk (2) (1) (⟨#[]⟩) ([]) ([]), V.mk (3) (0) (⟨#[120]⟩) ([]) ([])]))))) rfl (hlc rfl) (fun hg => sp_call2 (φ1 := IsD (SF w [b3_8, b1_4]) (V.d awO)) (φ2 := IsD (SF w [b3_8, b1_4]) (V.d (V.mk (5) (0) (⟨#[]⟩) ([⟨#[97]⟩, ⟨#[98]⟩]) ([V.mk (2) (1) (⟨#[]⟩) ([]) ([]), V.mk (3) (0) (⟨#[120]⟩) ([]) ([])])))) ent34 (((hlc rfl).undE hg).dat (rdV_in (x := awO) ht_v15_4 D_cn15_4 D_ci15_4 : Rd W9 (SF w [b3_8, b1_4]) (V.d awO) _) sub_all) ((hlc rfl).undE hg) (fun g u1 u2 W hk hgk h1 h2 => refSame_all _ awO (V.mk (5) (0) (⟨#[]⟩) ([⟨#[97]⟩, ⟨#[98]⟩]) ([V.mk (2) (1) (⟨#[]⟩) ([]) ([]), V.mk (3) (0) (⟨#[120]⟩) ([]) ([])])) (Nat.le_refl _) (by first | omega | exact Nat.le_of_ble_eq_true (by kernel_rfl)) W _ _ _ h1 h2)) ?_
 refine .e rfl (hlc rfl) (fun hg => sp_not ((hlc rfl).undE hg)) ?_
 refine .i (sp_or (hlc rfl) ((hlc rfl).weak fun hq => hq)) ?_
 refine .dn fun a13 g W13 y13 zz13 hk hg hV hR hP => ?_
 obtain ⟨e39, -, -, -, -, -, -, -, -, -, -, -, -, -, -, -, -⟩ := hV
 replace e1 := ft hR e1
 replace D_cn15_4 := D_cn15_4.ext hk
 replace D_ci15_4 := D_ci15_4.ext hk
 replace e39 := e39.q
 replace own_b1_4 := own_b1_4.ext hk
 replace own_b3_8 := own_b3_8.ext hk
 replace kw := kw.x hk
 clear hR hk hg hP
 refine zn (hK12 _ _ ?_)
 refine zc e39 (fun hc => ?_) (fun hc => ?_)
 ·
  exfalso
  exact Bool.noConfusion (hc.symm.trans (by kernel_rfl : _ = false))
 refine wp_skip (hK11 _ _ ?_)
 refine zq fun K14 hK14 => ?_
 refine rg mixed y13 zz13 ?_
 refine .i (v := (.agg #[(.int .u8 (awO.k)), (.int .i64 (awO.n)), (.string (awO.t)), (.slice cn15_4a ((awO.ns).length) cn15_4c), (.slice ci15_4a ((awO.xs).length) ci15_4c)])) (loA (hbs rfl e1) own_b1_4 trivial agg33 sz33 rfl rfl) ?_
 refine .op (φ := IsPk W13 74 awO ([]) (0)) st_pk (sp_call1 (φ1 := IsD (SF w [b3_8, b1_4]) (V.d awO)) ent21 ((hlc rfl).dat (rdV_in (x := awO) ht_v15_4 D_cn15_4 D_ci15_4 : Rd W13 (SF w [b3_8, b1_4]) (V.d awO) _) sub_all) (fun g u1 W hk hgk h1 => (Of_ok awO (Nat.le_of_ble_eq_true (by kernel_rfl)) (by kernel_rfl) W _ _ (fun b o h => h.1.2.1) h1).mono (fun _ _ ⟨v, h1, h2, h3⟩ => ⟨v, h1, h2, pk_up hk h3⟩))) ?_
 refine .dn fun a15 g W15 y15 zz15 hk hg hV hR hP => ?_
 obtain ⟨e41, -, -⟩ := hV
 replace e1 := ft hR e1
 obtain ⟨bo41_15, bm41_15, cn41_15v, ci41_15v, e41, lr_bo41_15, lr_bm41_15, ne_bo41_15_bm41_15, own_bo41_15, own_bm41_15, D_cn41_15, D_ci41_15, tb41_15⟩ := e41
 obtain ⟨cn41_15a, cn41_15c, ev, D2⟩ := rdS_out D_cn41_15; subst ev; replace D_cn41_15 := D2; clear D2
 obtain ⟨ci41_15a, ci41_15c, ev, D2⟩ := rdVs_out D_ci41_15; subst ev; replace D_ci41_15 := D2; clear D2
 have e41 : sl a15 41 = (.pointer (some ⟨bo41_15, 0, none⟩)) := e41
 have lo_bo41_15 : w.heap.size ≤ bo41_15 := Nat.le_trans kw.size lr_bo41_15
 have ne_b1_4_bo41_15 : b1_4 ≠ bo41_15 := Nat.ne_of_lt (Nat.lt_of_lt_of_le own_b1_4.lt lr_bo41_15)
 have ne_b3_8_bo41_15 : b3_8 ≠ bo41_15 := Nat.ne_of_lt (Nat.lt_of_lt_of_le own_b3_8.lt lr_bo41_15)
 have lo_bm41_15 : w.heap.size ≤ bm41_15 := Nat.le_trans kw.size lr_bm41_15
 have ne_b1_4_bm41_15 : b1_4 ≠ bm41_15 := Nat.ne_of_lt (Nat.lt_of_lt_of_le own_b1_4.lt lr_bm41_15)
 have ne_b3_8_bm41_15 : b3_8 ≠ bm41_15 := Nat.ne_of_lt (Nat.lt_of_lt_of_le own_b3_8.lt lr_bm41_15)
 replace D_cn15_4 : Rd W15 (SF w [bo41_15, bm41_15, b3_8, b1_4]) (strsD (awO.ns)) (.slice cn15_4a ((awO.ns).length) cn15_4c) := sf_more D_cn15_4 hk [bo41_15, bm41_15] (in_cons lr_bo41_15 (in_cons lr_bm41_15 in_nil))
 replace D_ci15_4 : Rd W15 (SF w [bo41_15, bm41_15, b3_8, b1_4]) (valsD (awO.xs)) (.slice ci15_4a ((awO.xs).length) ci15_4c) := sf_more D_ci15_4 hk [bo41_15, bm41_15] (in_cons lr_bo41_15 (in_cons lr_bm41_15 in_nil))
 replace D_cn41_15 : Rd W15 (SF w [bo41_15, bm41_15, b3_8, b1_4]) (strsD (awO.ns)) (.slice cn41_15a ((awO.ns).length) cn41_15c) := pk_data kw (in_cons own_b3_8.lt (in_cons own_b1_4.lt in_nil)) D_cn41_15
 replace D_ci41_15 : Rd W15 (SF w [bo41_15, bm41_15, b3_8, b1_4]) (valsD (awO.xs)) (.slice ci41_15a ((awO.xs).length) ci41_15c) := pk_data kw (in_cons own_b3_8.lt (in_cons own_b1_4.lt in_nil)) D_ci41_15
 have own_bo41_15 : Own W15 bo41_15 [(.int .u8 (awO.k)), (.int .i64 (awO.n)), (.string (awO.t)), (.slice cn41_15a ((awO.ns).length) cn41_15c), (.slice ci41_15a ((awO.xs).length) ci41_15c), (.map (some bm41_15)), (.int .i64 (0))] 74 := own_bo41_15
 have own_bm41_15 : OwnM W15 bm41_15 ([]) := own_bm41_15
 replace own_b1_4 := own_b1_4.ext hk
 replace own_b3_8 := own_b3_8.ext hk
 replace kw := kw.x hk
 clear hR hk hg hP lr_bo41_15 lr_bm41_15
 refine tail_assign (v := (.pointer (some ⟨bo41_15, 0, none⟩))) e41 (by rw [y15]; exact Nat.le_of_ble_eq_true rfl) (fun a16 y16 zz16 e5 hr => ?_)
 replace y16 := y16.trans y15; replace zz16 := zz16.trans zz15
 replace e1 := (hr 1 (by decide)).trans e1
 replace e41 := (hr 41 (by decide)).trans e41
 clear hr
 refine zn (hK14 _ _ ?_)
 refine zq fun K17 hK17 => ?_
 refine zq fun K18 hK18 => ?_
 refine wp_reg (fun k => k ∉ [bo41_15, bm41_15]) (Ψ := fun W => Own W bo41_15 [(.int .u8 (awO.k)), (.int .i64 (awO.n)), (.string (awO.t)), (.slice cn41_15a ((awO.ns).length) cn41_15c), (.slice ci41_15a ((awO.xs).length) ci41_15c), (.map (some bm41_15)), (.int .i64 (0))] 74 ∧ OwnM W bm41_15 ([])) mixed y16 zz16 (stE_and stE_own stE_ownM) ⟨own_bo41_15, own_bm41_15⟩ ?_
 refine .mb rfl e5 ?_
 refine .callL4 (φ1 := Is (.pointer (some ⟨bo41_15, 0, none⟩))) (φ2 := Is (.string (⟨#[97]⟩))) (φ3 := Is (.int .i64 (0))) (φ4 := Is (.int .i64 (9))) (φ := Is (.int .i64 (if tkB awO 0 ⟨#[97]⟩ (numE 0 9) then numV 0 9 (getV awO ⟨#[97]⟩) else 0))) (Ψ' := fun W => Own W bo41_15 [(.int .u8 (awO.k)), (.int .i64 (awO.n)), (.string (awO.t)), (.slice cn41_15a ((awO.ns).length) cn41_15c), (.slice ci41_15a ((awO.xs).length) ci41_15c), (.map (some bm41_15)), (.int .i64 (tkE awO 0 ⟨#[97]⟩ (numE 0 9)))] 74 ∧ OwnM W bm41_15 (tkA awO ([]) 0 ⟨#[97]⟩ (numE 0 9))) ent44 (hlc rfl) Has.cst Has.cst Has.cst (st_is _) (stE_and stE_own stE_ownM) (fun g u1 u2 u3 u4 W hk hg h1 h2 h3 h4 hP => by have h1 : u1 = _ := h1; subst u1; have h2 : u2 = _ := h2; subst u2; have h3 : u3 = _ := h3; subst u3; have h4 : u4 = _ := h4; subst u4; exact (Num_ok awO ([]) (0) (AB.nil.mono (by omega)) (Nat.le_of_ble_eq_true (by kernel_rfl)) tb41_15 ⟨#[97]⟩ 0 9 W _ _ _ _ _ (fun b o h => h.2.1) (sf_notin (by simp)) ne_bo41_15_bm41_15 (sf_keepL D_cn41_15 hk (by simp)) (sf_keepL D_ci41_15 hk (by simp)) hP.1 hP.2)) ?_
 refine .dn fun a19 g W19 y19 zz19 hk hg hV hR hP => ?_
 obtain ⟨e43, -, -⟩ := hV
 replace e1 := ft hR e1
 replace e5 := ft hR e5
 replace e43 := e43.q
 replace D_cn15_4 := sf_keepL D_cn15_4 hk (by simp)
 replace D_ci15_4 := sf_keepL D_ci15_4 hk (by simp)
 replace D_cn41_15 := sf_keepL D_cn41_15 hk (by simp)
 replace D_ci41_15 := sf_keepL D_ci41_15 hk (by simp)
 replace own_b1_4 := own_keepL own_b1_4 hk (by simp [ne_b1_4_bo41_15, ne_b1_4_bm41_15])
 replace own_b3_8 := own_keepL own_b3_8 hk (by simp [ne_b3_8_bo41_15, ne_b3_8_bm41_15])
 obtain ⟨own_bo41_15, own_bm41_15⟩ := hP
 replace own_bo41_15 : Own W19 bo41_15 [(.int .u8 (awO.k)), (.int .i64 (awO.n)), (.string (awO.t)), (.slice cn41_15a ((awO.ns).length) cn41_15c), (.slice ci41_15a ((awO.xs).length) ci41_15c), (.map (some bm41_15)), (.int .i64 (tkE awO 0 ⟨#[97]⟩ (numE 0 9)))] 74 := own_bo41_15
 replace own_bm41_15 : OwnM W19 bm41_15 (tkA awO ([]) 0 ⟨#[97]⟩ (numE 0 9)) := own_bm41_15
 replace kw := keeps_L kw hk (in_cons (.inl lo_bo41_15) (in_cons (.inl lo_bm41_15) in_nil))
 clear hR hk hg
 refine tail_reg 2 All y19 zz19 st_tr trivial rfl ?_
 refine .i (sp_neq (hbs rfl e43) Has.cst) ?_
 refine .i (sp_move (hlc rfl)) ?_
 refine .dn fun a20 g W20 y20 zz20 hk hg hV hR hP => ?_
 refine tail_nil ?_
 show runTail _ _ _ _ _ _
 obtain ⟨e45, -, -⟩ := hV
 replace e1 := ft hR e1
 replace e5 := ft hR e5
 replace D_cn15_4 := D_cn15_4.ext hk
 replace D_ci15_4 := D_ci15_4.ext hk
 replace D_cn41_15 := D_cn41_15.ext hk
 replace D_ci41_15 := D_ci41_15.ext hk
 replace e45 := e45.q
 replace own_b1_4 := own_b1_4.ext hk
 replace own_b3_8 := own_b3_8.ext hk
 replace own_bo41_15 := own_bo41_15.ext hk
 replace own_bm41_15 := own_bm41_15.ext hk
 replace kw := kw.x hk
 clear hR hk hg hP
 refine tail_ung 3 45 false rfl 3 rfl (e45.trans (congrArg Value.bool (by kernel_rfl))) ?_
 refine tail_reg 5 All y20 zz20 st_tr trivial rfl ?_
 refine .mb rfl e5 ?_
 refine .i (v := (.int .i64 (doneE awO (tkA awO ([]) 0 ⟨#[97]⟩ (numE 0 9)) (tkE awO 0 ⟨#[97]⟩ (numE 0 9))))) (sp_call1 (φ1 := Is (.pointer (some ⟨bo41_15, 0, none⟩))) ent32 (hlc rfl) (fun g u1 W hk hgk h1 => by have h1 : u1 = _ := h1; subst u1; exact Done_ok awO (tkA awO ([]) 0 ⟨#[97]⟩ (numE 0 9)) (tkE awO 0 ⟨#[97]⟩ (numE 0 9)) W _ _ _ _ _ (D_cn41_15.ext hk) (own_bo41_15.ext hk) (own_bm41_15.ext hk))) ?_
 refine .i (sp_neq (hlc rfl) Has.cst) ?_
 refine .i (sp_or (hbs rfl e45) ((hlc rfl).toU)) ?_
 refine .i (sp_move (hlc rfl)) ?_
 refine .dn fun a21 g W21 y21 zz21 hk hg hV hR hP => ?_
 refine tail_nil ?_
 show runTail _ _ _ _ _ _
 obtain ⟨e50, -, -, -, -, -⟩ := hV
 replace e1 := ft hR e1
 replace e5 := ft hR e5
 replace D_cn15_4 := D_cn15_4.ext hk
 replace D_ci15_4 := D_ci15_4.ext hk
 replace D_cn41_15 := D_cn41_15.ext hk
 replace D_ci41_15 := D_ci41_15.ext hk
 replace e50 := e50.q
 replace own_b1_4 := own_b1_4.ext hk
 replace own_b3_8 := own_b3_8.ext hk
 replace own_bo41_15 := own_bo41_15.ext hk
 replace own_bm41_15 := own_bm41_15.ext hk
 replace kw := kw.x hk
 clear hR hk hg hP
 refine tail_ung 8 50 false rfl 3 rfl (e50.trans (congrArg Value.bool (by kernel_rfl))) ?_
 refine tail_reg 2 (fun k => k ∉ [bo41_15, bm41_15]) (Ψ := fun W => Own W bo41_15 [(.int .u8 (awO.k)), (.int .i64 (awO.n)), (.string (awO.t)), (.slice cn41_15a ((awO.ns).length) cn41_15c), (.slice ci41_15a ((awO.xs).length) ci41_15c), (.map (some bm41_15)), (.int .i64 (tkE awO 0 ⟨#[97]⟩ (numE 0 9)))] 74 ∧ OwnM W bm41_15 (tkA awO ([]) 0 ⟨#[97]⟩ (numE 0 9))) y21 zz21 (stE_and stE_own stE_ownM) ⟨own_bo41_15, own_bm41_15⟩ rfl ?_
 refine .mb rfl e5 ?_
 refine .callL2 (φ1 := Is (.pointer (some ⟨bo41_15, 0, none⟩))) (φ2 := Is (.string (⟨#[98]⟩))) (φ := Is (.string (if tkB awO (tkE awO 0 ⟨#[97]⟩ (numE 0 9)) ⟨#[98]⟩ textE then textV (getV awO ⟨#[98]⟩) else ⟨#[]⟩))) (Ψ' := fun W => Own W bo41_15 [(.int .u8 (awO.k)), (.int .i64 (awO.n)), (.string (awO.t)), (.slice cn41_15a ((awO.ns).length) cn41_15c), (.slice ci41_15a ((awO.xs).length) ci41_15c), (.map (some bm41_15)), (.int .i64 (tkE awO (tkE awO 0 ⟨#[97]⟩ (numE 0 9)) ⟨#[98]⟩ textE))] 74 ∧ OwnM W bm41_15 (tkA awO (tkA awO ([]) 0 ⟨#[97]⟩ (numE 0 9)) (tkE awO 0 ⟨#[97]⟩ (numE 0 9)) ⟨#[98]⟩ textE)) ent43 (hlc rfl) Has.cst (st_is _) (stE_and stE_own stE_ownM) (fun g u1 u2 W hk hg h1 h2 hP => by have h1 : u1 = _ := h1; subst u1; have h2 : u2 = _ := h2; subst u2; exact (Text_ok awO (tkA awO ([]) 0 ⟨#[97]⟩ (numE 0 9)) (tkE awO 0 ⟨#[97]⟩ (numE 0 9)) (AB.nil.tk.mono (by omega)) (Nat.le_of_ble_eq_true (by kernel_rfl)) tb41_15 ⟨#[98]⟩ W _ _ _ _ _ (fun b o h => h.2.1) (sf_notin (by simp)) ne_bo41_15_bm41_15 (sf_keepL D_cn41_15 hk (by simp)) (sf_keepL D_ci41_15 hk (by simp)) hP.1 hP.2)) ?_
 refine .dn fun a22 g W22 y22 zz22 hk hg hV hR hP => ?_
 refine tail_nil ?_
 show runTail _ _ _ _ _ _
 obtain ⟨e52, -, -⟩ := hV
 replace e1 := ft hR e1
 replace e5 := ft hR e5
 replace e50 := ft hR e50
 replace e52 := e52.q
 replace D_cn15_4 := sf_keepL D_cn15_4 hk (by simp)
 replace D_ci15_4 := sf_keepL D_ci15_4 hk (by simp)
 replace D_cn41_15 := sf_keepL D_cn41_15 hk (by simp)
 replace D_ci41_15 := sf_keepL D_ci41_15 hk (by simp)
 replace own_b1_4 := own_keepL own_b1_4 hk (by simp [ne_b1_4_bo41_15, ne_b1_4_bm41_15])
 replace own_b3_8 := own_keepL own_b3_8 hk (by simp [ne_b3_8_bo41_15, ne_b3_8_bm41_15])
 obtain ⟨own_bo41_15, own_bm41_15⟩ := hP
 replace own_bo41_15 : Own W22 bo41_15 [(.int .u8 (awO.k)), (.int .i64 (awO.n)), (.string (awO.t)), (.slice cn41_15a ((awO.ns).length) cn41_15c), (.slice ci41_15a ((awO.xs).length) ci41_15c), (.map (some bm41_15)), (.int .i64 (tkE awO (tkE awO 0 ⟨#[97]⟩ (numE 0 9)) ⟨#[98]⟩ textE))] 74 := own_bo41_15
 replace own_bm41_15 : OwnM W22 bm41_15 (tkA awO (tkA awO ([]) 0 ⟨#[97]⟩ (numE 0 9)) (tkE awO 0 ⟨#[97]⟩ (numE 0 9)) ⟨#[98]⟩ textE) := own_bm41_15
 replace kw := keeps_L kw hk (in_cons (.inl lo_bo41_15) (in_cons (.inl lo_bm41_15) in_nil))
 clear hR hk hg
 refine tail_reg 3 All y22 zz22 st_tr trivial rfl ?_
 refine .i (sp_sNeq (hbs rfl e52) Has.cst) ?_
 refine .i (sp_or (hbs rfl e50) ((hlc rfl).toU)) ?_
 refine .i (sp_move (hlc rfl)) ?_
 refine .dn fun a23 g W23 y23 zz23 hk hg hV hR hP => ?_
 refine tail_nil ?_
 show runTail _ _ _ _ _ _
 obtain ⟨e55, -, -, -⟩ := hV
 replace e1 := ft hR e1
 replace e5 := ft hR e5
 replace D_cn15_4 := D_cn15_4.ext hk
 replace D_ci15_4 := D_ci15_4.ext hk
 replace D_cn41_15 := D_cn41_15.ext hk
 replace D_ci41_15 := D_ci41_15.ext hk
 replace e55 := e55.q
 replace own_b1_4 := own_b1_4.ext hk
 replace own_b3_8 := own_b3_8.ext hk
 replace own_bo41_15 := own_bo41_15.ext hk
 replace own_bm41_15 := own_bm41_15.ext hk
 replace kw := kw.x hk
 clear hR hk hg hP
 refine tail_ung 13 55 false rfl 3 rfl (e55.trans (congrArg Value.bool (by kernel_rfl))) ?_
 refine tail_reg 5 All y23 zz23 st_tr trivial rfl ?_
 refine .mb rfl e5 ?_
 refine .i (v := (.int .i64 (doneE awO (tkA awO (tkA awO ([]) 0 ⟨#[97]⟩ (numE 0 9)) (tkE awO 0 ⟨#[97]⟩ (numE 0 9)) ⟨#[98]⟩ textE) (tkE awO (tkE awO 0 ⟨#[97]⟩ (numE 0 9)) ⟨#[98]⟩ textE)))) (sp_call1 (φ1 := Is (.pointer (some ⟨bo41_15, 0, none⟩))) ent32 (hlc rfl) (fun g u1 W hk hgk h1 => by have h1 : u1 = _ := h1; subst u1; exact Done_ok awO (tkA awO (tkA awO ([]) 0 ⟨#[97]⟩ (numE 0 9)) (tkE awO 0 ⟨#[97]⟩ (numE 0 9)) ⟨#[98]⟩ textE) (tkE awO (tkE awO 0 ⟨#[97]⟩ (numE 0 9)) ⟨#[98]⟩ textE) W _ _ _ _ _ (D_cn41_15.ext hk) (own_bo41_15.ext hk) (own_bm41_15.ext hk))) ?_
 refine .i (sp_neq (hlc rfl) Has.cst) ?_
 refine .i (sp_or (hbs rfl e55) ((hlc rfl).toU)) ?_
 refine .i (sp_move (hlc rfl)) ?_
 refine .dn fun a24 g W24 y24 zz24 hk hg hV hR hP => ?_
 refine tail_nil ?_
 show runTail _ _ _ _ _ _
 obtain ⟨e60, -, -, -, -, -⟩ := hV
 replace e1 := ft hR e1
 replace e5 := ft hR e5
 replace D_cn15_4 := D_cn15_4.ext hk
 replace D_ci15_4 := D_ci15_4.ext hk
 replace D_cn41_15 := D_cn41_15.ext hk
 replace D_ci41_15 := D_ci41_15.ext hk
 replace e60 := e60.q
 replace own_b1_4 := own_b1_4.ext hk
 replace own_b3_8 := own_b3_8.ext hk
 replace own_bo41_15 := own_bo41_15.ext hk
 replace own_bm41_15 := own_bm41_15.ext hk
 replace kw := kw.x hk
 clear hR hk hg hP
 refine tail_ung 18 60 false rfl 3 rfl (e60.trans (congrArg Value.bool (by kernel_rfl))) ?_
 refine tail_reg 2 (fun k => k ∉ [bo41_15, bm41_15]) (Ψ := fun W => Own W bo41_15 [(.int .u8 (awO.k)), (.int .i64 (awO.n)), (.string (awO.t)), (.slice cn41_15a ((awO.ns).length) cn41_15c), (.slice ci41_15a ((awO.xs).length) ci41_15c), (.map (some bm41_15)), (.int .i64 (tkE awO (tkE awO 0 ⟨#[97]⟩ (numE 0 9)) ⟨#[98]⟩ textE))] 74 ∧ OwnM W bm41_15 (tkA awO (tkA awO ([]) 0 ⟨#[97]⟩ (numE 0 9)) (tkE awO 0 ⟨#[97]⟩ (numE 0 9)) ⟨#[98]⟩ textE)) y24 zz24 (stE_and stE_own stE_ownM) ⟨own_bo41_15, own_bm41_15⟩ rfl ?_
 refine .mb rfl e5 ?_
 refine .callL2 (φ1 := Is (.pointer (some ⟨bo41_15, 0, none⟩))) (φ2 := Is (.string (⟨#[99]⟩))) (φ := Is (.string (if tkB awO (tkE awO (tkE awO 0 ⟨#[97]⟩ (numE 0 9)) ⟨#[98]⟩ textE) ⟨#[99]⟩ textE then textV (getV awO ⟨#[99]⟩) else ⟨#[]⟩))) (Ψ' := fun W => Own W bo41_15 [(.int .u8 (awO.k)), (.int .i64 (awO.n)), (.string (awO.t)), (.slice cn41_15a ((awO.ns).length) cn41_15c), (.slice ci41_15a ((awO.xs).length) ci41_15c), (.map (some bm41_15)), (.int .i64 (tkE awO (tkE awO (tkE awO 0 ⟨#[97]⟩ (numE 0 9)) ⟨#[98]⟩ textE) ⟨#[99]⟩ textE))] 74 ∧ OwnM W bm41_15 (tkA awO (tkA awO (tkA awO ([]) 0 ⟨#[97]⟩ (numE 0 9)) (tkE awO 0 ⟨#[97]⟩ (numE 0 9)) ⟨#[98]⟩ textE) (tkE awO (tkE awO 0 ⟨#[97]⟩ (numE 0 9)) ⟨#[98]⟩ textE) ⟨#[99]⟩ textE)) ent43 (hlc rfl) Has.cst (st_is _) (stE_and stE_own stE_ownM) (fun g u1 u2 W hk hg h1 h2 hP => by have h1 : u1 = _ := h1; subst u1; have h2 : u2 = _ := h2; subst u2; exact (Text_ok awO (tkA awO (tkA awO ([]) 0 ⟨#[97]⟩ (numE 0 9)) (tkE awO 0 ⟨#[97]⟩ (numE 0 9)) ⟨#[98]⟩ textE) (tkE awO (tkE awO 0 ⟨#[97]⟩ (numE 0 9)) ⟨#[98]⟩ textE) (AB.nil.tk.tk.mono (by omega)) (Nat.le_of_ble_eq_true (by kernel_rfl)) tb41_15 ⟨#[99]⟩ W _ _ _ _ _ (fun b o h => h.2.1) (sf_notin (by simp)) ne_bo41_15_bm41_15 (sf_keepL D_cn41_15 hk (by simp)) (sf_keepL D_ci41_15 hk (by simp)) hP.1 hP.2)) ?_
 refine .dn fun a25 g W25 y25 zz25 hk hg hV hR hP => ?_
 refine tail_nil ?_
 show runTail _ _ _ _ _ _
 obtain ⟨e62, -, -⟩ := hV
 replace e1 := ft hR e1
 replace e5 := ft hR e5
 replace e60 := ft hR e60
 replace e62 := e62.q
 replace D_cn15_4 := sf_keepL D_cn15_4 hk (by simp)
 replace D_ci15_4 := sf_keepL D_ci15_4 hk (by simp)
 replace D_cn41_15 := sf_keepL D_cn41_15 hk (by simp)
 replace D_ci41_15 := sf_keepL D_ci41_15 hk (by simp)
 replace own_b1_4 := own_keepL own_b1_4 hk (by simp [ne_b1_4_bo41_15, ne_b1_4_bm41_15])
 replace own_b3_8 := own_keepL own_b3_8 hk (by simp [ne_b3_8_bo41_15, ne_b3_8_bm41_15])
 obtain ⟨own_bo41_15, own_bm41_15⟩ := hP
 replace own_bo41_15 : Own W25 bo41_15 [(.int .u8 (awO.k)), (.int .i64 (awO.n)), (.string (awO.t)), (.slice cn41_15a ((awO.ns).length) cn41_15c), (.slice ci41_15a ((awO.xs).length) ci41_15c), (.map (some bm41_15)), (.int .i64 (tkE awO (tkE awO (tkE awO 0 ⟨#[97]⟩ (numE 0 9)) ⟨#[98]⟩ textE) ⟨#[99]⟩ textE))] 74 := own_bo41_15
 replace own_bm41_15 : OwnM W25 bm41_15 (tkA awO (tkA awO (tkA awO ([]) 0 ⟨#[97]⟩ (numE 0 9)) (tkE awO 0 ⟨#[97]⟩ (numE 0 9)) ⟨#[98]⟩ textE) (tkE awO (tkE awO 0 ⟨#[97]⟩ (numE 0 9)) ⟨#[98]⟩ textE) ⟨#[99]⟩ textE) := own_bm41_15
 replace kw := keeps_L kw hk (in_cons (.inl lo_bo41_15) (in_cons (.inl lo_bm41_15) in_nil))
 clear hR hk hg
 refine tail_reg 3 All y25 zz25 st_tr trivial rfl ?_
 refine .i (sp_sNeq (hbs rfl e62) Has.cst) ?_
 refine .i (sp_or (hbs rfl e60) ((hlc rfl).toU)) ?_
 refine .i (sp_move (hlc rfl)) ?_
 refine .dn fun a26 g W26 y26 zz26 hk hg hV hR hP => ?_
 refine tail_nil ?_
 show runTail _ _ _ _ _ _
 obtain ⟨e65, -, -, -⟩ := hV
 replace e1 := ft hR e1
 replace e5 := ft hR e5
 replace D_cn15_4 := D_cn15_4.ext hk
 replace D_ci15_4 := D_ci15_4.ext hk
 replace D_cn41_15 := D_cn41_15.ext hk
 replace D_ci41_15 := D_ci41_15.ext hk
 replace e65 := e65.q
 replace own_b1_4 := own_b1_4.ext hk
 replace own_b3_8 := own_b3_8.ext hk
 replace own_bo41_15 := own_bo41_15.ext hk
 replace own_bm41_15 := own_bm41_15.ext hk
 replace kw := kw.x hk
 clear hR hk hg hP
 refine tail_ung 23 65 false rfl 3 rfl (e65.trans (congrArg Value.bool (by kernel_rfl))) ?_
 refine tail_reg 4 All y26 zz26 st_tr trivial rfl ?_
 refine .mb rfl e5 ?_
 refine .i (v := (.int .i64 (doneE awO (tkA awO (tkA awO (tkA awO ([]) 0 ⟨#[97]⟩ (numE 0 9)) (tkE awO 0 ⟨#[97]⟩ (numE 0 9)) ⟨#[98]⟩ textE) (tkE awO (tkE awO 0 ⟨#[97]⟩ (numE 0 9)) ⟨#[98]⟩ textE) ⟨#[99]⟩ textE) (tkE awO (tkE awO (tkE awO 0 ⟨#[97]⟩ (numE 0 9)) ⟨#[98]⟩ textE) ⟨#[99]⟩ textE)))) (sp_call1 (φ1 := Is (.pointer (some ⟨bo41_15, 0, none⟩))) ent32 (hlc rfl) (fun g u1 W hk hgk h1 => by have h1 : u1 = _ := h1; subst u1; exact Done_ok awO (tkA awO (tkA awO (tkA awO ([]) 0 ⟨#[97]⟩ (numE 0 9)) (tkE awO 0 ⟨#[97]⟩ (numE 0 9)) ⟨#[98]⟩ textE) (tkE awO (tkE awO 0 ⟨#[97]⟩ (numE 0 9)) ⟨#[98]⟩ textE) ⟨#[99]⟩ textE) (tkE awO (tkE awO (tkE awO 0 ⟨#[97]⟩ (numE 0 9)) ⟨#[98]⟩ textE) ⟨#[99]⟩ textE) W _ _ _ _ _ (D_cn41_15.ext hk) (own_bo41_15.ext hk) (own_bm41_15.ext hk))) ?_
 refine .i (sp_neq (hlc rfl) Has.cst) ?_
 refine .i (sp_or (hbs rfl e65) ((hlc rfl).toU)) ?_
 refine .dn fun a27 g W27 y27 zz27 hk hg hV hR hP => ?_
 refine tail_nil ?_
 show runTail _ _ _ _ _ _
 obtain ⟨e69, -, -, -, -⟩ := hV
 replace e1 := ft hR e1
 replace D_cn15_4 := D_cn15_4.ext hk
 replace D_ci15_4 := D_ci15_4.ext hk
 replace D_cn41_15 := D_cn41_15.ext hk
 replace D_ci41_15 := D_ci41_15.ext hk
 replace e69 := e69.q
 replace own_b1_4 := own_b1_4.ext hk
 replace own_b3_8 := own_b3_8.ext hk
 replace own_bo41_15 := own_bo41_15.ext hk
 replace own_bm41_15 := own_bm41_15.ext hk
 replace kw := kw.x hk
 clear hR hk hg hP
 refine zn (hK18 _ _ ?_)
 refine zc e69 (fun hc => ?_) (fun hc => ?_)
 ·
  exfalso
  exact Bool.noConfusion (hc.symm.trans (by kernel_rfl : _ = false))
 refine wp_skip (hK17 _ _ ?_)
 refine zq fun K28 hK28 => ?_
 refine rg mixed y27 zz27 ?_
 refine .i (v := (.agg #[(.int .u8 (awO.k)), (.int .i64 (awO.n)), (.string (awO.t)), (.slice cn15_4a ((awO.ns).length) cn15_4c), (.slice ci15_4a ((awO.xs).length) ci15_4c)])) (loA (hbs rfl e1) own_b1_4 trivial agg33 sz33 rfl rfl) ?_
 refine .op (φ := IsPk W27 74 awO ([]) (0)) st_pk (sp_call1 (φ1 := IsD (SF w [bo41_15, bm41_15, b3_8, b1_4]) (V.d awO)) ent21 ((hlc rfl).dat (rdV_in (x := awO) ht_v15_4 D_cn15_4 D_ci15_4 : Rd W27 (SF w [bo41_15, bm41_15, b3_8, b1_4]) (V.d awO) _) sub_all) (fun g u1 W hk hgk h1 => (Of_ok awO (Nat.le_of_ble_eq_true (by kernel_rfl)) (by kernel_rfl) W _ _ (fun b o h => h.1.2.1) h1).mono (fun _ _ ⟨v, h1, h2, h3⟩ => ⟨v, h1, h2, pk_up hk h3⟩))) ?_
 refine .i (v := (.agg #[(.int .u8 (awO.k)), (.int .i64 (awO.n)), (.string (awO.t)), (.slice cn15_4a ((awO.ns).length) cn15_4c), (.slice ci15_4a ((awO.xs).length) ci15_4c)])) (loA (hbs rfl e1) own_b1_4 trivial agg33 sz33 rfl rfl) ?_
 refine .dn fun a29 g W29 y29 zz29 hk hg hV hR hP => ?_
 obtain ⟨e72, e71, -, -⟩ := hV
 obtain ⟨bo71_29, bm71_29, cn71_29v, ci71_29v, e71, lr_bo71_29, lr_bm71_29, ne_bo71_29_bm71_29, own_bo71_29, own_bm71_29, D_cn71_29, D_ci71_29, tb71_29⟩ := e71
 obtain ⟨cn71_29a, cn71_29c, ev, D2⟩ := rdS_out D_cn71_29; subst ev; replace D_cn71_29 := D2; clear D2
 obtain ⟨ci71_29a, ci71_29c, ev, D2⟩ := rdVs_out D_ci71_29; subst ev; replace D_ci71_29 := D2; clear D2
 have e71 : sl a29 71 = (.pointer (some ⟨bo71_29, 0, none⟩)) := e71
 have lo_bo71_29 : w.heap.size ≤ bo71_29 := Nat.le_trans kw.size lr_bo71_29
 have ne_b1_4_bo71_29 : b1_4 ≠ bo71_29 := Nat.ne_of_lt (Nat.lt_of_lt_of_le own_b1_4.lt lr_bo71_29)
 have ne_b3_8_bo71_29 : b3_8 ≠ bo71_29 := Nat.ne_of_lt (Nat.lt_of_lt_of_le own_b3_8.lt lr_bo71_29)
 have ne_bo41_15_bo71_29 : bo41_15 ≠ bo71_29 := Nat.ne_of_lt (Nat.lt_of_lt_of_le own_bo41_15.lt lr_bo71_29)
 have ne_bm41_15_bo71_29 : bm41_15 ≠ bo71_29 := Nat.ne_of_lt (Nat.lt_of_lt_of_le own_bm41_15.lt lr_bo71_29)
 have lo_bm71_29 : w.heap.size ≤ bm71_29 := Nat.le_trans kw.size lr_bm71_29
 have ne_b1_4_bm71_29 : b1_4 ≠ bm71_29 := Nat.ne_of_lt (Nat.lt_of_lt_of_le own_b1_4.lt lr_bm71_29)
 have ne_b3_8_bm71_29 : b3_8 ≠ bm71_29 := Nat.ne_of_lt (Nat.lt_of_lt_of_le own_b3_8.lt lr_bm71_29)
 have ne_bo41_15_bm71_29 : bo41_15 ≠ bm71_29 := Nat.ne_of_lt (Nat.lt_of_lt_of_le own_bo41_15.lt lr_bm71_29)
 have ne_bm41_15_bm71_29 : bm41_15 ≠ bm71_29 := Nat.ne_of_lt (Nat.lt_of_lt_of_le own_bm41_15.lt lr_bm71_29)
 replace D_cn15_4 : Rd W29 (SF w [bo71_29, bm71_29, bo41_15, bm41_15, b3_8, b1_4]) (strsD (awO.ns)) (.slice cn15_4a ((awO.ns).length) cn15_4c) := sf_more D_cn15_4 hk [bo71_29, bm71_29] (in_cons lr_bo71_29 (in_cons lr_bm71_29 in_nil))
 replace D_ci15_4 : Rd W29 (SF w [bo71_29, bm71_29, bo41_15, bm41_15, b3_8, b1_4]) (valsD (awO.xs)) (.slice ci15_4a ((awO.xs).length) ci15_4c) := sf_more D_ci15_4 hk [bo71_29, bm71_29] (in_cons lr_bo71_29 (in_cons lr_bm71_29 in_nil))
 replace D_cn71_29 : Rd W29 (SF w [bo71_29, bm71_29, bo41_15, bm41_15, b3_8, b1_4]) (strsD (awO.ns)) (.slice cn71_29a ((awO.ns).length) cn71_29c) := pk_data kw (in_cons own_bo41_15.lt (in_cons own_bm41_15.lt (in_cons own_b3_8.lt (in_cons own_b1_4.lt in_nil)))) D_cn71_29
 replace D_ci71_29 : Rd W29 (SF w [bo71_29, bm71_29, bo41_15, bm41_15, b3_8, b1_4]) (valsD (awO.xs)) (.slice ci71_29a ((awO.xs).length) ci71_29c) := pk_data kw (in_cons own_bo41_15.lt (in_cons own_bm41_15.lt (in_cons own_b3_8.lt (in_cons own_b1_4.lt in_nil)))) D_ci71_29
 have own_bo71_29 : Own W29 bo71_29 [(.int .u8 (awO.k)), (.int .i64 (awO.n)), (.string (awO.t)), (.slice cn71_29a ((awO.ns).length) cn71_29c), (.slice ci71_29a ((awO.xs).length) ci71_29c), (.map (some bm71_29)), (.int .i64 (0))] 74 := own_bo71_29
 have own_bm71_29 : OwnM W29 bm71_29 ([]) := own_bm71_29
 replace e72 := e72.q
 replace own_b1_4 := own_b1_4.ext hk
 replace own_b3_8 := own_b3_8.ext hk
 replace own_bo41_15 := own_bo41_15.ext hk
 replace own_bm41_15 := own_bm41_15.ext hk
 replace kw := kw.x hk
 clear hR hk hg hP lr_bo71_29 lr_bm71_29
 refine tail_reg 1 All y29 zz29 st_tr trivial rfl ?_
 refine .op (φ := IsPk W29 74 awO ([]) (0)) st_pk (sp_call1 (φ1 := IsD (SF w [bo71_29, bm71_29, bo41_15, bm41_15, b3_8, b1_4]) (V.d awO)) ent21 ((hbs rfl e72).dat (rdV_in (x := awO) ht_v15_4 D_cn15_4 D_ci15_4 : Rd W29 (SF w [bo71_29, bm71_29, bo41_15, bm41_15, b3_8, b1_4]) (V.d awO) _) sub_all) (fun g u1 W hk hgk h1 => (Of_ok awO (Nat.le_of_ble_eq_true (by kernel_rfl)) (by kernel_rfl) W _ _ (fun b o h => h.1.2.1) h1).mono (fun _ _ ⟨v, h1, h2, h3⟩ => ⟨v, h1, h2, pk_up hk h3⟩))) ?_
 refine .dn fun a30 g W30 y30 zz30 hk hg hV hR hP => ?_
 refine tail_nil ?_
 show runTail _ _ _ _ _ _
 obtain ⟨e73, -⟩ := hV
 replace e71 := ft hR e71
 obtain ⟨bo73_30, bm73_30, cn73_30v, ci73_30v, e73, lr_bo73_30, lr_bm73_30, ne_bo73_30_bm73_30, own_bo73_30, own_bm73_30, D_cn73_30, D_ci73_30, tb73_30⟩ := e73
 obtain ⟨cn73_30a, cn73_30c, ev, D2⟩ := rdS_out D_cn73_30; subst ev; replace D_cn73_30 := D2; clear D2
 obtain ⟨ci73_30a, ci73_30c, ev, D2⟩ := rdVs_out D_ci73_30; subst ev; replace D_ci73_30 := D2; clear D2
 have e73 : sl a30 73 = (.pointer (some ⟨bo73_30, 0, none⟩)) := e73
 have lo_bo73_30 : w.heap.size ≤ bo73_30 := Nat.le_trans kw.size lr_bo73_30
 have ne_b1_4_bo73_30 : b1_4 ≠ bo73_30 := Nat.ne_of_lt (Nat.lt_of_lt_of_le own_b1_4.lt lr_bo73_30)
 have ne_b3_8_bo73_30 : b3_8 ≠ bo73_30 := Nat.ne_of_lt (Nat.lt_of_lt_of_le own_b3_8.lt lr_bo73_30)
 have ne_bo41_15_bo73_30 : bo41_15 ≠ bo73_30 := Nat.ne_of_lt (Nat.lt_of_lt_of_le own_bo41_15.lt lr_bo73_30)
 have ne_bm41_15_bo73_30 : bm41_15 ≠ bo73_30 := Nat.ne_of_lt (Nat.lt_of_lt_of_le own_bm41_15.lt lr_bo73_30)
 have ne_bo71_29_bo73_30 : bo71_29 ≠ bo73_30 := Nat.ne_of_lt (Nat.lt_of_lt_of_le own_bo71_29.lt lr_bo73_30)
 have ne_bm71_29_bo73_30 : bm71_29 ≠ bo73_30 := Nat.ne_of_lt (Nat.lt_of_lt_of_le own_bm71_29.lt lr_bo73_30)
 have lo_bm73_30 : w.heap.size ≤ bm73_30 := Nat.le_trans kw.size lr_bm73_30
 have ne_b1_4_bm73_30 : b1_4 ≠ bm73_30 := Nat.ne_of_lt (Nat.lt_of_lt_of_le own_b1_4.lt lr_bm73_30)
 have ne_b3_8_bm73_30 : b3_8 ≠ bm73_30 := Nat.ne_of_lt (Nat.lt_of_lt_of_le own_b3_8.lt lr_bm73_30)
 have ne_bo41_15_bm73_30 : bo41_15 ≠ bm73_30 := Nat.ne_of_lt (Nat.lt_of_lt_of_le own_bo41_15.lt lr_bm73_30)
 have ne_bm41_15_bm73_30 : bm41_15 ≠ bm73_30 := Nat.ne_of_lt (Nat.lt_of_lt_of_le own_bm41_15.lt lr_bm73_30)
 have ne_bo71_29_bm73_30 : bo71_29 ≠ bm73_30 := Nat.ne_of_lt (Nat.lt_of_lt_of_le own_bo71_29.lt lr_bm73_30)
 have ne_bm71_29_bm73_30 : bm71_29 ≠ bm73_30 := Nat.ne_of_lt (Nat.lt_of_lt_of_le own_bm71_29.lt lr_bm73_30)
 replace D_cn15_4 : Rd W30 (SF w [bo73_30, bm73_30, bo71_29, bm71_29, bo41_15, bm41_15, b3_8, b1_4]) (strsD (awO.ns)) (.slice cn15_4a ((awO.ns).length) cn15_4c) := sf_more D_cn15_4 hk [bo73_30, bm73_30] (in_cons lr_bo73_30 (in_cons lr_bm73_30 in_nil))
 replace D_ci15_4 : Rd W30 (SF w [bo73_30, bm73_30, bo71_29, bm71_29, bo41_15, bm41_15, b3_8, b1_4]) (valsD (awO.xs)) (.slice ci15_4a ((awO.xs).length) ci15_4c) := sf_more D_ci15_4 hk [bo73_30, bm73_30] (in_cons lr_bo73_30 (in_cons lr_bm73_30 in_nil))
 replace D_cn71_29 : Rd W30 (SF w [bo73_30, bm73_30, bo71_29, bm71_29, bo41_15, bm41_15, b3_8, b1_4]) (strsD (awO.ns)) (.slice cn71_29a ((awO.ns).length) cn71_29c) := sf_more D_cn71_29 hk [bo73_30, bm73_30] (in_cons lr_bo73_30 (in_cons lr_bm73_30 in_nil))
 replace D_ci71_29 : Rd W30 (SF w [bo73_30, bm73_30, bo71_29, bm71_29, bo41_15, bm41_15, b3_8, b1_4]) (valsD (awO.xs)) (.slice ci71_29a ((awO.xs).length) ci71_29c) := sf_more D_ci71_29 hk [bo73_30, bm73_30] (in_cons lr_bo73_30 (in_cons lr_bm73_30 in_nil))
 replace D_cn73_30 : Rd W30 (SF w [bo73_30, bm73_30, bo71_29, bm71_29, bo41_15, bm41_15, b3_8, b1_4]) (strsD (awO.ns)) (.slice cn73_30a ((awO.ns).length) cn73_30c) := pk_data kw (in_cons own_bo71_29.lt (in_cons own_bm71_29.lt (in_cons own_bo41_15.lt (in_cons own_bm41_15.lt (in_cons own_b3_8.lt (in_cons own_b1_4.lt in_nil)))))) D_cn73_30
 replace D_ci73_30 : Rd W30 (SF w [bo73_30, bm73_30, bo71_29, bm71_29, bo41_15, bm41_15, b3_8, b1_4]) (valsD (awO.xs)) (.slice ci73_30a ((awO.xs).length) ci73_30c) := pk_data kw (in_cons own_bo71_29.lt (in_cons own_bm71_29.lt (in_cons own_bo41_15.lt (in_cons own_bm41_15.lt (in_cons own_b3_8.lt (in_cons own_b1_4.lt in_nil)))))) D_ci73_30
 have own_bo73_30 : Own W30 bo73_30 [(.int .u8 (awO.k)), (.int .i64 (awO.n)), (.string (awO.t)), (.slice cn73_30a ((awO.ns).length) cn73_30c), (.slice ci73_30a ((awO.xs).length) ci73_30c), (.map (some bm73_30)), (.int .i64 (0))] 74 := own_bo73_30
 have own_bm73_30 : OwnM W30 bm73_30 ([]) := own_bm73_30
 replace own_b1_4 := own_b1_4.ext hk
 replace own_b3_8 := own_b3_8.ext hk
 replace own_bo41_15 := own_bo41_15.ext hk
 replace own_bm41_15 := own_bm41_15.ext hk
 replace own_bo71_29 := own_bo71_29.ext hk
 replace own_bm71_29 := own_bm71_29.ext hk
 replace kw := kw.x hk
 clear hR hk hg hP lr_bo73_30 lr_bm73_30
 refine tail_reg 2 All y30 zz30 st_tr trivial rfl ?_
 refine .i (sp_assign (hbs rfl e71)) ?_
 refine .i (sp_assign (hbs rfl e73)) ?_
 refine .dn fun a31 g W31 y31 zz31 hk hg hV hR hP => ?_
 refine tail_nil ?_
 show runTail _ _ _ _ _ _
 obtain ⟨e7, e6, -⟩ := hV
 replace D_cn71_29 := D_cn71_29.ext hk
 replace D_ci71_29 := D_ci71_29.ext hk
 replace D_cn73_30 := D_cn73_30.ext hk
 replace D_ci73_30 := D_ci73_30.ext hk
 have e6 : sl a31 6 = (.pointer (some ⟨bo71_29, 0, none⟩)) := e6
 have e7 : sl a31 7 = (.pointer (some ⟨bo73_30, 0, none⟩)) := e7
 replace own_b1_4 := own_b1_4.ext hk
 replace own_b3_8 := own_b3_8.ext hk
 replace own_bo41_15 := own_bo41_15.ext hk
 replace own_bm41_15 := own_bm41_15.ext hk
 replace own_bo71_29 := own_bo71_29.ext hk
 replace own_bm71_29 := own_bm71_29.ext hk
 replace own_bo73_30 := own_bo73_30.ext hk
 replace own_bm73_30 := own_bm73_30.ext hk
 replace kw := kw.x hk
 clear hR hk hg hP
 refine zn (hK28 _ _ ?_)
 refine zq fun K32 hK32 => ?_
 refine wp_reg (fun k => k ∉ [bo71_29, bm71_29]) (Ψ := fun W => Own W bo71_29 [(.int .u8 (awO.k)), (.int .i64 (awO.n)), (.string (awO.t)), (.slice cn71_29a ((awO.ns).length) cn71_29c), (.slice ci71_29a ((awO.xs).length) ci71_29c), (.map (some bm71_29)), (.int .i64 (0))] 74 ∧ OwnM W bm71_29 ([])) mixed y31 zz31 (stE_and stE_own stE_ownM) ⟨own_bo71_29, own_bm71_29⟩ ?_
 refine .mb rfl e6 ?_
 refine .callL4 (φ1 := Is (.pointer (some ⟨bo71_29, 0, none⟩))) (φ2 := Is (.string (⟨#[97]⟩))) (φ3 := Is (.int .i64 (2))) (φ4 := Is (.int .i64 (9))) (φ := Is (.int .i64 (if tkB awO 0 ⟨#[97]⟩ (numE 2 9) then numV 2 9 (getV awO ⟨#[97]⟩) else 0))) (Ψ' := fun W => Own W bo71_29 [(.int .u8 (awO.k)), (.int .i64 (awO.n)), (.string (awO.t)), (.slice cn71_29a ((awO.ns).length) cn71_29c), (.slice ci71_29a ((awO.xs).length) ci71_29c), (.map (some bm71_29)), (.int .i64 (tkE awO 0 ⟨#[97]⟩ (numE 2 9)))] 74 ∧ OwnM W bm71_29 (tkA awO ([]) 0 ⟨#[97]⟩ (numE 2 9))) ent44 (hlc rfl) Has.cst Has.cst Has.cst (st_is _) (stE_and stE_own stE_ownM) (fun g u1 u2 u3 u4 W hk hg h1 h2 h3 h4 hP => by have h1 : u1 = _ := h1; subst u1; have h2 : u2 = _ := h2; subst u2; have h3 : u3 = _ := h3; subst u3; have h4 : u4 = _ := h4; subst u4; exact (Num_ok awO ([]) (0) (AB.nil.mono (by omega)) (Nat.le_of_ble_eq_true (by kernel_rfl)) tb71_29 ⟨#[97]⟩ 2 9 W _ _ _ _ _ (fun b o h => h.2.1) (sf_notin (by simp)) ne_bo71_29_bm71_29 (sf_keepL D_cn71_29 hk (by simp)) (sf_keepL D_ci71_29 hk (by simp)) hP.1 hP.2)) ?_
 refine .dn fun a33 g W33 y33 zz33 hk hg hV hR hP => ?_
 obtain ⟨e75, -, -⟩ := hV
 replace e6 := ft hR e6
 replace e7 := ft hR e7
 replace e75 := e75.q
 replace D_cn71_29 := sf_keepL D_cn71_29 hk (by simp)
 replace D_ci71_29 := sf_keepL D_ci71_29 hk (by simp)
 replace D_cn73_30 := sf_keepL D_cn73_30 hk (by simp)
 replace D_ci73_30 := sf_keepL D_ci73_30 hk (by simp)
 replace own_b1_4 := own_keepL own_b1_4 hk (by simp [ne_b1_4_bo71_29, ne_b1_4_bm71_29])
 replace own_b3_8 := own_keepL own_b3_8 hk (by simp [ne_b3_8_bo71_29, ne_b3_8_bm71_29])
 replace own_bo41_15 := own_keepL own_bo41_15 hk (by simp [ne_bo41_15_bo71_29, ne_bo41_15_bm71_29])
 replace own_bm41_15 := ownM_keepL own_bm41_15 hk (by simp [ne_bm41_15_bo71_29, ne_bm41_15_bm71_29])
 replace own_bo73_30 := own_keepL own_bo73_30 hk (by simp [ne_bo71_29_bo73_30.symm, ne_bm71_29_bo73_30.symm])
 replace own_bm73_30 := ownM_keepL own_bm73_30 hk (by simp [ne_bo71_29_bm73_30.symm, ne_bm71_29_bm73_30.symm])
 obtain ⟨own_bo71_29, own_bm71_29⟩ := hP
 replace own_bo71_29 : Own W33 bo71_29 [(.int .u8 (awO.k)), (.int .i64 (awO.n)), (.string (awO.t)), (.slice cn71_29a ((awO.ns).length) cn71_29c), (.slice ci71_29a ((awO.xs).length) ci71_29c), (.map (some bm71_29)), (.int .i64 (tkE awO 0 ⟨#[97]⟩ (numE 2 9)))] 74 := own_bo71_29
 replace own_bm71_29 : OwnM W33 bm71_29 (tkA awO ([]) 0 ⟨#[97]⟩ (numE 2 9)) := own_bm71_29
 replace kw := keeps_L kw hk (in_cons (.inl lo_bo71_29) (in_cons (.inl lo_bm71_29) in_nil))
 clear hR hk hg
 refine tail_reg 2 All y33 zz33 st_tr trivial rfl ?_
 refine .i (sp_eql (hbs rfl e75) Has.cst) ?_
 refine .i (sp_move (hlc rfl)) ?_
 refine .dn fun a34 g W34 y34 zz34 hk hg hV hR hP => ?_
 refine tail_nil ?_
 show runTail _ _ _ _ _ _
 obtain ⟨e77, -, -⟩ := hV
 replace e6 := ft hR e6
 replace e7 := ft hR e7
 replace D_cn71_29 := D_cn71_29.ext hk
 replace D_ci71_29 := D_ci71_29.ext hk
 replace D_cn73_30 := D_cn73_30.ext hk
 replace D_ci73_30 := D_ci73_30.ext hk
 replace e77 := e77.q
 replace own_b1_4 := own_b1_4.ext hk
 replace own_b3_8 := own_b3_8.ext hk
 replace own_bo41_15 := own_bo41_15.ext hk
 replace own_bm41_15 := own_bm41_15.ext hk
 replace own_bo71_29 := own_bo71_29.ext hk
 replace own_bm71_29 := own_bm71_29.ext hk
 replace own_bo73_30 := own_bo73_30.ext hk
 replace own_bm73_30 := own_bm73_30.ext hk
 replace kw := kw.x hk
 clear hR hk hg hP
 refine tail_ung 3 77 true rfl 3 rfl (e77.trans (congrArg Value.bool (by kernel_rfl))) ?_
 refine tail_reg 5 All y34 zz34 st_tr trivial rfl ?_
 refine .mb rfl e6 ?_
 refine .i (v := (.int .i64 (errK (awO.k) (tkE awO 0 ⟨#[97]⟩ (numE 2 9))))) (sp_call1 (φ1 := Is (.pointer (some ⟨bo71_29, 0, none⟩))) ent24 (hlc rfl) (fun g u1 W hk hgk h1 => by have h1 : u1 = _ := h1; subst u1; exact Err_ok _ _ _ _ _ _ _ W _ (own_bo71_29.ext hk))) ?_
 refine .i (sp_eql (hlc rfl) Has.cst) ?_
 refine .i (sp_and (hbs rfl e77) ((hlc rfl).toU)) ?_
 refine .i (sp_move (hlc rfl)) ?_
 refine .dn fun a35 g W35 y35 zz35 hk hg hV hR hP => ?_
 refine tail_nil ?_
 show runTail _ _ _ _ _ _
 obtain ⟨e82, -, -, -, -, -⟩ := hV
 replace e6 := ft hR e6
 replace e7 := ft hR e7
 replace D_cn71_29 := D_cn71_29.ext hk
 replace D_ci71_29 := D_ci71_29.ext hk
 replace D_cn73_30 := D_cn73_30.ext hk
 replace D_ci73_30 := D_ci73_30.ext hk
 replace e82 := e82.q
 replace own_b1_4 := own_b1_4.ext hk
 replace own_b3_8 := own_b3_8.ext hk
 replace own_bo41_15 := own_bo41_15.ext hk
 replace own_bm41_15 := own_bm41_15.ext hk
 replace own_bo71_29 := own_bo71_29.ext hk
 replace own_bm71_29 := own_bm71_29.ext hk
 replace own_bo73_30 := own_bo73_30.ext hk
 replace own_bm73_30 := own_bm73_30.ext hk
 replace kw := kw.x hk
 clear hR hk hg hP
 refine tail_ung 8 82 true rfl 3 rfl (e82.trans (congrArg Value.bool (by kernel_rfl))) ?_
 refine tail_reg 2 (fun k => k ∉ [bo71_29, bm71_29]) (Ψ := fun W => Own W bo71_29 [(.int .u8 (awO.k)), (.int .i64 (awO.n)), (.string (awO.t)), (.slice cn71_29a ((awO.ns).length) cn71_29c), (.slice ci71_29a ((awO.xs).length) ci71_29c), (.map (some bm71_29)), (.int .i64 (tkE awO 0 ⟨#[97]⟩ (numE 2 9)))] 74 ∧ OwnM W bm71_29 (tkA awO ([]) 0 ⟨#[97]⟩ (numE 2 9))) y35 zz35 (stE_and stE_own stE_ownM) ⟨own_bo71_29, own_bm71_29⟩ rfl ?_
 refine .mb rfl e6 ?_
 refine .callL2 (φ1 := Is (.pointer (some ⟨bo71_29, 0, none⟩))) (φ2 := Is (.string (⟨#[98]⟩))) (φ := Is (.string (if tkB awO (tkE awO 0 ⟨#[97]⟩ (numE 2 9)) ⟨#[98]⟩ textE then textV (getV awO ⟨#[98]⟩) else ⟨#[]⟩))) (Ψ' := fun W => Own W bo71_29 [(.int .u8 (awO.k)), (.int .i64 (awO.n)), (.string (awO.t)), (.slice cn71_29a ((awO.ns).length) cn71_29c), (.slice ci71_29a ((awO.xs).length) ci71_29c), (.map (some bm71_29)), (.int .i64 (tkE awO (tkE awO 0 ⟨#[97]⟩ (numE 2 9)) ⟨#[98]⟩ textE))] 74 ∧ OwnM W bm71_29 (tkA awO (tkA awO ([]) 0 ⟨#[97]⟩ (numE 2 9)) (tkE awO 0 ⟨#[97]⟩ (numE 2 9)) ⟨#[98]⟩ textE)) ent43 (hlc rfl) Has.cst (st_is _) (stE_and stE_own stE_ownM) (fun g u1 u2 W hk hg h1 h2 hP => by have h1 : u1 = _ := h1; subst u1; have h2 : u2 = _ := h2; subst u2; exact (Text_ok awO (tkA awO ([]) 0 ⟨#[97]⟩ (numE 2 9)) (tkE awO 0 ⟨#[97]⟩ (numE 2 9)) (AB.nil.tk.mono (by omega)) (Nat.le_of_ble_eq_true (by kernel_rfl)) tb71_29 ⟨#[98]⟩ W _ _ _ _ _ (fun b o h => h.2.1) (sf_notin (by simp)) ne_bo71_29_bm71_29 (sf_keepL D_cn71_29 hk (by simp)) (sf_keepL D_ci71_29 hk (by simp)) hP.1 hP.2)) ?_
 refine .dn fun a36 g W36 y36 zz36 hk hg hV hR hP => ?_
 refine tail_nil ?_
 show runTail _ _ _ _ _ _
 obtain ⟨e84, -, -⟩ := hV
 replace e7 := ft hR e7
 replace e82 := ft hR e82
 replace e84 := e84.q
 replace D_cn71_29 := sf_keepL D_cn71_29 hk (by simp)
 replace D_ci71_29 := sf_keepL D_ci71_29 hk (by simp)
 replace D_cn73_30 := sf_keepL D_cn73_30 hk (by simp)
 replace D_ci73_30 := sf_keepL D_ci73_30 hk (by simp)
 replace own_b1_4 := own_keepL own_b1_4 hk (by simp [ne_b1_4_bo71_29, ne_b1_4_bm71_29])
 replace own_b3_8 := own_keepL own_b3_8 hk (by simp [ne_b3_8_bo71_29, ne_b3_8_bm71_29])
 replace own_bo41_15 := own_keepL own_bo41_15 hk (by simp [ne_bo41_15_bo71_29, ne_bo41_15_bm71_29])
 replace own_bm41_15 := ownM_keepL own_bm41_15 hk (by simp [ne_bm41_15_bo71_29, ne_bm41_15_bm71_29])
 replace own_bo73_30 := own_keepL own_bo73_30 hk (by simp [ne_bo71_29_bo73_30.symm, ne_bm71_29_bo73_30.symm])
 replace own_bm73_30 := ownM_keepL own_bm73_30 hk (by simp [ne_bo71_29_bm73_30.symm, ne_bm71_29_bm73_30.symm])
 obtain ⟨own_bo71_29, own_bm71_29⟩ := hP
 replace own_bo71_29 : Own W36 bo71_29 [(.int .u8 (awO.k)), (.int .i64 (awO.n)), (.string (awO.t)), (.slice cn71_29a ((awO.ns).length) cn71_29c), (.slice ci71_29a ((awO.xs).length) ci71_29c), (.map (some bm71_29)), (.int .i64 (tkE awO (tkE awO 0 ⟨#[97]⟩ (numE 2 9)) ⟨#[98]⟩ textE))] 74 := own_bo71_29
 replace own_bm71_29 : OwnM W36 bm71_29 (tkA awO (tkA awO ([]) 0 ⟨#[97]⟩ (numE 2 9)) (tkE awO 0 ⟨#[97]⟩ (numE 2 9)) ⟨#[98]⟩ textE) := own_bm71_29
 replace kw := keeps_L kw hk (in_cons (.inl lo_bo71_29) (in_cons (.inl lo_bm71_29) in_nil))
 clear hR hk hg
 refine tail_reg 3 All y36 zz36 st_tr trivial rfl ?_
 refine .i (sp_sEql (hbs rfl e84) Has.cst) ?_
 refine .i (sp_and (hbs rfl e82) ((hlc rfl).toU)) ?_
 refine .i (sp_move (hlc rfl)) ?_
 refine .dn fun a37 g W37 y37 zz37 hk hg hV hR hP => ?_
 refine tail_nil ?_
 show runTail _ _ _ _ _ _
 obtain ⟨e87, -, -, -⟩ := hV
 replace e7 := ft hR e7
 replace D_cn73_30 := D_cn73_30.ext hk
 replace D_ci73_30 := D_ci73_30.ext hk
 replace e87 := e87.q
 replace own_b1_4 := own_b1_4.ext hk
 replace own_b3_8 := own_b3_8.ext hk
 replace own_bo41_15 := own_bo41_15.ext hk
 replace own_bm41_15 := own_bm41_15.ext hk
 replace own_bo71_29 := own_bo71_29.ext hk
 replace own_bm71_29 := own_bm71_29.ext hk
 replace own_bo73_30 := own_bo73_30.ext hk
 replace own_bm73_30 := own_bm73_30.ext hk
 replace kw := kw.x hk
 clear hR hk hg hP
 refine tail_ung 13 87 true rfl 3 rfl (e87.trans (congrArg Value.bool (by kernel_rfl))) ?_
 refine tail_reg 2 (fun k => k ∉ [bo73_30, bm73_30]) (Ψ := fun W => Own W bo73_30 [(.int .u8 (awO.k)), (.int .i64 (awO.n)), (.string (awO.t)), (.slice cn73_30a ((awO.ns).length) cn73_30c), (.slice ci73_30a ((awO.xs).length) ci73_30c), (.map (some bm73_30)), (.int .i64 (0))] 74 ∧ OwnM W bm73_30 ([])) y37 zz37 (stE_and stE_own stE_ownM) ⟨own_bo73_30, own_bm73_30⟩ rfl ?_
 refine .mb rfl e7 ?_
 refine .callL2 (φ1 := Is (.pointer (some ⟨bo73_30, 0, none⟩))) (φ2 := Is (.string (⟨#[97]⟩))) (φ := Is (.bool (if tkB awO 0 ⟨#[97]⟩ boolE then boolV (getV awO ⟨#[97]⟩) else false))) (Ψ' := fun W => Own W bo73_30 [(.int .u8 (awO.k)), (.int .i64 (awO.n)), (.string (awO.t)), (.slice cn73_30a ((awO.ns).length) cn73_30c), (.slice ci73_30a ((awO.xs).length) ci73_30c), (.map (some bm73_30)), (.int .i64 (tkE awO 0 ⟨#[97]⟩ boolE))] 74 ∧ OwnM W bm73_30 (tkA awO ([]) 0 ⟨#[97]⟩ boolE)) ent45 (hlc rfl) Has.cst (st_is _) (stE_and stE_own stE_ownM) (fun g u1 u2 W hk hg h1 h2 hP => by have h1 : u1 = _ := h1; subst u1; have h2 : u2 = _ := h2; subst u2; exact (Bool_ok awO ([]) (0) (AB.nil.mono (by omega)) (Nat.le_of_ble_eq_true (by kernel_rfl)) tb73_30 ⟨#[97]⟩ W _ _ _ _ _ (fun b o h => h.2.1) (sf_notin (by simp)) ne_bo73_30_bm73_30 (sf_keepL D_cn73_30 hk (by simp)) (sf_keepL D_ci73_30 hk (by simp)) hP.1 hP.2)) ?_
 refine .dn fun a38 g W38 y38 zz38 hk hg hV hR hP => ?_
 refine tail_nil ?_
 show runTail _ _ _ _ _ _
 obtain ⟨e89, -, -⟩ := hV
 replace e7 := ft hR e7
 replace e87 := ft hR e87
 replace e89 := e89.q
 replace D_cn73_30 := sf_keepL D_cn73_30 hk (by simp)
 replace D_ci73_30 := sf_keepL D_ci73_30 hk (by simp)
 replace own_b1_4 := own_keepL own_b1_4 hk (by simp [ne_b1_4_bo73_30, ne_b1_4_bm73_30])
 replace own_b3_8 := own_keepL own_b3_8 hk (by simp [ne_b3_8_bo73_30, ne_b3_8_bm73_30])
 replace own_bo41_15 := own_keepL own_bo41_15 hk (by simp [ne_bo41_15_bo73_30, ne_bo41_15_bm73_30])
 replace own_bm41_15 := ownM_keepL own_bm41_15 hk (by simp [ne_bm41_15_bo73_30, ne_bm41_15_bm73_30])
 replace own_bo71_29 := own_keepL own_bo71_29 hk (by simp [ne_bo71_29_bo73_30, ne_bo71_29_bm73_30])
 replace own_bm71_29 := ownM_keepL own_bm71_29 hk (by simp [ne_bm71_29_bo73_30, ne_bm71_29_bm73_30])
 obtain ⟨own_bo73_30, own_bm73_30⟩ := hP
 replace own_bo73_30 : Own W38 bo73_30 [(.int .u8 (awO.k)), (.int .i64 (awO.n)), (.string (awO.t)), (.slice cn73_30a ((awO.ns).length) cn73_30c), (.slice ci73_30a ((awO.xs).length) ci73_30c), (.map (some bm73_30)), (.int .i64 (tkE awO 0 ⟨#[97]⟩ boolE))] 74 := own_bo73_30
 replace own_bm73_30 : OwnM W38 bm73_30 (tkA awO ([]) 0 ⟨#[97]⟩ boolE) := own_bm73_30
 replace kw := keeps_L kw hk (in_cons (.inl lo_bo73_30) (in_cons (.inl lo_bm73_30) in_nil))
 clear hR hk hg
 refine tail_reg 3 All y38 zz38 st_tr trivial rfl ?_
 refine .i (sp_not (hbs rfl e89)) ?_
 refine .i (sp_and (hbs rfl e87) ((hlc rfl).toU)) ?_
 refine .i (sp_move (hlc rfl)) ?_
 refine .dn fun a39 g W39 y39 zz39 hk hg hV hR hP => ?_
 refine tail_nil ?_
 show runTail _ _ _ _ _ _
 obtain ⟨e92, -, -, -⟩ := hV
 replace e7 := ft hR e7
 replace D_cn73_30 := D_cn73_30.ext hk
 replace D_ci73_30 := D_ci73_30.ext hk
 replace e92 := e92.q
 replace own_b1_4 := own_b1_4.ext hk
 replace own_b3_8 := own_b3_8.ext hk
 replace own_bo41_15 := own_bo41_15.ext hk
 replace own_bm41_15 := own_bm41_15.ext hk
 replace own_bo71_29 := own_bo71_29.ext hk
 replace own_bm71_29 := own_bm71_29.ext hk
 replace own_bo73_30 := own_bo73_30.ext hk
 replace own_bm73_30 := own_bm73_30.ext hk
 replace kw := kw.x hk
 clear hR hk hg hP
 refine tail_ung 18 92 true rfl 3 rfl (e92.trans (congrArg Value.bool (by kernel_rfl))) ?_
 refine tail_reg 5 All y39 zz39 st_tr trivial rfl ?_
 refine .mb rfl e7 ?_
 refine .i (v := (.int .i64 (errK (awO.k) (tkE awO 0 ⟨#[97]⟩ boolE)))) (sp_call1 (φ1 := Is (.pointer (some ⟨bo73_30, 0, none⟩))) ent24 (hlc rfl) (fun g u1 W hk hgk h1 => by have h1 : u1 = _ := h1; subst u1; exact Err_ok _ _ _ _ _ _ _ W _ (own_bo73_30.ext hk))) ?_
 refine .i (sp_eql (hlc rfl) Has.cst) ?_
 refine .i (sp_and (hbs rfl e92) ((hlc rfl).toU)) ?_
 refine .al rfl ?_
 refine .dn fun a40 g W40 y40 zz40 hk hg hV hR hP => ?_
 refine tail_nil ?_
 show runTail _ _ _ _ _ _
 obtain ⟨e0, -, -, -, -, -⟩ := hV
 replace D_cn73_30 := D_cn73_30.ext hk
 replace D_ci73_30 := D_ci73_30.ext hk
 replace e0 := e0.q
 replace own_b1_4 := own_b1_4.ext hk
 replace own_b3_8 := own_b3_8.ext hk
 replace own_bo41_15 := own_bo41_15.ext hk
 replace own_bm41_15 := own_bm41_15.ext hk
 replace own_bo71_29 := own_bo71_29.ext hk
 replace own_bm71_29 := own_bm71_29.ext hk
 replace own_bo73_30 := own_bo73_30.ext hk
 replace own_bm73_30 := own_bm73_30.ext hk
 replace kw := kw.x hk
 clear hR hk hg hP
 refine zn (hK32 _ _ ?_)
 refine wp_ret ?_
 refine ret1 rfl zz40 e0 ⟨_, rfl, kw, ?_⟩
 exact congrArg Value.bool (by kernel_rfl)
end Go.Proofs.Ytnobijngkpflcaa
namespace Go.Eng
def grO : List ByteArray → List V → ByteArray → Option V
  | [], _, _ => none
  | n :: ns, xs, m => if n = m then xs.head? else grO ns xs.tail m
def grR (x : V) (m : ByteArray) : Option V := if x.k = 5 then grO x.ns x.xs m else none
def grB (x : V) (m : ByteArray) : Bool := (grR x m).isSome
def grV (x : V) (m : ByteArray) : V := (grR x m).getD V.zero
theorem gr_hit {ns : List ByteArray} {xs : List V} {m : ByteArray} {k : Nat} (h : k < ns.length) (he : ns[k] = m) : grO (ns.drop k) (xs.drop k) m = xs[k]? := by
  rw [List.drop_eq_getElem_cons h, grO, if_pos he, List.head?_drop]
theorem gr_miss {ns : List ByteArray} {xs : List V} {m : ByteArray} {k : Nat} (h : k < ns.length) (he : ns[k] ≠ m) : grO (ns.drop k) (xs.drop k) m = grO (ns.drop (k + 1)) (xs.drop (k + 1)) m := by
  rw [List.drop_eq_getElem_cons h, grO, if_neg he, List.tail_drop]
def rtE (x : V) (m : ByteArray) (kd : Nat) : Int := if grB x m = false then 6 else if kd ≠ 0 ∧ (grV x m).k ≠ kd then 10 else 0
def rtB (x : V) (m : ByteArray) (kd : Nat) : Bool := decide (rtE x m kd = 0)
def rtV (x : V) (m : ByteArray) (kd : Nat) : V := if rtE x m kd = 0 then grV x m else V.zero
theorem rt_ok {x : V} {m : ByteArray} {kd : Nat} (h : rtE x m kd = 0) : rtB x m kd = true ∧ rtV x m kd = grV x m := by rw [rtB, rtV, h]; exact ⟨rfl, rfl⟩
theorem rt_no {x : V} {m : ByteArray} {kd : Nat} {e : Int} (h : rtE x m kd = e) (he : e ≠ 0) : rtB x m kd = false ∧ rtV x m kd = V.zero := by
  rw [rtB, rtV, h, if_neg he]
  exact ⟨decide_eq_false he, rfl⟩
def rbig (x : V) (m : ByteArray) (kd : Nat) (mo : Int) : Bool := rtB x m kd && decide (mo < ((rtV x m kd).xs.length : Int))
def rnN' (x : V) (m : ByteArray) (lo hi : Int) : Int := if rtB x m 2 = true ∧ ((rtV x m 2).n < lo ∨ hi < (rtV x m 2).n) then 0 else (rtV x m 2).n
def rlL (x : V) (m : ByteArray) (mo : Int) : List V := if rbig x m 4 mo = true then [] else (rtV x m 4).xs
def rlE (x : V) (m : ByteArray) (mo : Int) : Int := if rbig x m 4 mo = true then 5 else rtE x m 4
def roV (x : V) (m : ByteArray) (mo : Int) : V := if rbig x m 5 mo = true then V.zero else rtV x m 5
def rxT (l : List V) : List ByteArray := if l.all (fun y => y.k == 3) then l.map V.t else []
theorem rxT_no {l : List V} {k : Nat} (h : k < l.length) (hk : l[k].k ≠ 3) : rxT l = [] := by
  rw [rxT, if_neg]
  intro h2
  exact hk (by simpa using List.all_eq_true.1 h2 _ (List.getElem_mem h))
theorem rxT_yes {l : List V} (h : ∀ i (hi : i < l.length), l[i].k = 3) : rxT l = l.map V.t := by
  rw [rxT, if_pos]
  rw [List.all_eq_true]
  intro y hy
  obtain ⟨i, hi, rfl⟩ := List.getElem_of_mem hy
  simp [h i hi]
def aR (x : V) (e : Int) (y : V) (c : Cl) : Bool :=
  if c.wh = 0 then (decide (errK x.k e = 0) && getB x c.nm) == grB y c.nm
  else if c.wh = 1 then decide ((if tkB x e c.nm textE then textV (getV x c.nm) else ⟨#[]⟩) = (rtV y c.nm 3).t)
  else if c.wh = 2 then (if tkB x e c.nm (numE c.lo c.hi) then numV c.lo c.hi (getV x c.nm) else 0) == rnN' y c.nm c.lo c.hi
  else if c.wh = 3 then (if tkB x e c.nm boolE then boolV (getV x c.nm) else false) == ((rtV y c.nm 1).n == 1)
  else if c.wh = 4 then V.beq (V.mk 0 0 ⟨#[]⟩ [] (if tkB x e c.nm (listE c.mo) then listV c.mo (getV x c.nm) else [])) (V.mk 0 0 ⟨#[]⟩ [] (rlL y c.nm c.mo))
  else if c.wh = 5 then decide ((if tkB x e c.nm (textsE c.mo) then textsL c.mo (getV x c.nm) else []) = rxT (rlL y c.nm c.mo))
  else if c.wh = 6 then V.beq (if tkB x e c.nm (obE c.mo) then obV c.mo (getV x c.nm) else ⟨0, 0, ⟨#[]⟩, [], []⟩) (roV y c.nm c.mo)
  else if c.wh = 7 then V.beq (if tkB x e c.nm anyE then getV x c.nm else ⟨0, 0, ⟨#[]⟩, [], []⟩) (rtV y c.nm 0)
  else true
end Go.Eng
namespace Go.Eng
def AnyS : BSet := fun _ _ => True
theorem arr_rdU {W : World} {lo : Nat} {e : TypeId} {sz : Nat} {X : BSet} {ds : List D} {v : Value} {hd : Option Nat} (h : Arr W lo e sz X ds v hd) : Rd W AnyS (.lst sz ds) v := arr_rd h (fun _ _ _ _ => trivial) (fun _ _ _ _ _ => trivial)
end Go.Eng
namespace Go.Eng
def RetN (W : World) (n : Nat) (φ : Value → World → Prop) : Ending → World → Prop := fun e W' => ∃ v, e = .returned v ∧ Keeps (fun k => k < n) W W' ∧ φ v W'
def WRow (W : World) (n sz m : Nat) (v : Value) : Prop := ∃ a c, v = .slice a m c ∧ (m = 0 ∨ ∃ b o cs T, a = some ⟨b, o, none⟩ ∧ n ≤ b ∧ Own W b cs T ∧ o + m * sz ≤ cs.length)
def LeafAt (cs : List Value) (o : Nat) : Prop := ∃ k n t a c a2 c2, cs[o]? = some (.int .u8 k) ∧ cs[o + 1]? = some (.int .i64 n) ∧ cs[o + 2]? = some (.string t) ∧ cs[o + 3]? = some (.slice a 0 c) ∧ cs[o + 4]? = some (.slice a2 0 c2)
def LRow (W : World) (n m : Nat) (v : Value) : Prop := ∃ a c, v = .slice a m c ∧ (m = 0 ∨ ∃ b o cs T, a = some ⟨b, o, none⟩ ∧ n ≤ b ∧ Own W b cs T ∧ o + m * 5 ≤ cs.length ∧ ∀ i, i < m → LeafAt cs (o + i * 5))
theorem WRow.ext {W W' : World} {n sz m : Nat} {v : Value} (h : WRow W n sz m v) (k : Ext W W') : WRow W' n sz m v := by
  obtain ⟨a, c, e, h⟩ := h
  refine ⟨a, c, e, h.imp id ?_⟩
  rintro ⟨b, o, cs, T, h1, h2, h3, h4⟩
  exact ⟨b, o, cs, T, h1, h2, h3.ext k, h4⟩
theorem LRow.ext {W W' : World} {n m : Nat} {v : Value} (h : LRow W n m v) (k : Ext W W') : LRow W' n m v := by
  obtain ⟨a, c, e, h⟩ := h
  refine ⟨a, c, e, h.imp id ?_⟩
  rintro ⟨b, o, cs, T, h1, h2, h3, h4⟩
  exact ⟨b, o, cs, T, h1, h2, h3.ext k, h4⟩
theorem LRow.w {W : World} {n m : Nat} {v : Value} (h : LRow W n m v) : WRow W n 5 m v := by
  obtain ⟨a, c, e, h⟩ := h
  refine ⟨a, c, e, h.imp id ?_⟩
  rintro ⟨b, o, cs, T, h1, h2, h3, h4, _⟩
  exact ⟨b, o, cs, T, h1, h2, h3, h4⟩
section
variable {P : Program} {ops : Array Oper} {S : Nat → Prop} {w0 : World} {a0 : Act} {Γ : Ctx}
variable {d : Option Tmp} {ty : TypeId} {pos : String} {af : Array Edge} {gd : Option (Nat × Bool)}
theorem sp_indexRowO {x y : Operand} {T E : TypeId} {va : Option Addr} {g0 o0 n cap i sz : Nat} {j : Int} (hx : Has S w0 a0 Γ x (Is (.slice va n cap))) (hy : Has S w0 a0 Γ y (Is (.int .i64 j))) (hT : P.underlying T = some (.slice E)) (hz : szOf P E = some sz) (hva : va = some ⟨g0, o0, none⟩) (hj : j = i) (hi : i < n) :
    Spec P ops S w0 a0 Γ ⟨d, .indexAddr T x y, ty, pos, af, gd⟩ (Is (.pointer (some ⟨g0, o0 + i * sz, none⟩))) := sp_val fun a g W hk hg he => by
  have e1 : a.eval x = .slice va n cap := hx.of_env hk hg he (by simp [Op.operands])
  have e2 : a.eval y = .int .i64 j := hy.of_env hk hg he (by simp [Op.operands])
  subst hj; subst hva
  have hi2 : (0 : Int) ≤ (i : Int) ∧ (i : Int) < (n : Int) := by omega
  simp [execOp, e1, e2, Instr.indexAt, asIntOf, run_und hT, run_szOf hz, hi, add_none]
def NilS (u : Value) : Prop := ∃ a c, u = .slice a 0 c
end
theorem splice_len {cs vs : List Value} {o : Nat} (h : o + vs.length ≤ cs.length) : (splice cs o vs).length = cs.length := by
  unfold splice
  simp
  omega
theorem splice_out {cs vs : List Value} {o q : Nat} (h : o + vs.length ≤ cs.length) (hq : q < o ∨ o + vs.length ≤ q) : (splice cs o vs)[q]? = cs[q]? := by
  unfold splice
  rcases hq with hq | hq
  · rw [List.append_assoc, List.getElem?_append_left (by simp; omega), List.getElem?_take_of_lt hq]
  · rw [List.getElem?_append_right (by simp; omega), List.getElem?_drop]
    congr 1
    simp
    omega
theorem splice_in {cs vs : List Value} {o j : Nat} (h : o + vs.length ≤ cs.length) (hj : j < vs.length) : (splice cs o vs)[o + j]? = vs[j]? := by
  unfold splice
  rw [List.append_assoc, List.getElem?_append_right (by simp; omega), List.getElem?_append_left (by simp; omega)]
  congr 1
  simp
  omega
theorem keeps_below {S0 : Nat → Prop} {w W W' : World} {n : Nat} (h : Keeps S0 w W) (k : Keeps (fun x => x < n) W W') (hn : w.heap.size ≤ n) : Keeps S0 w W' :=
  ⟨k.os.trans h.os, k.tape.trans h.tape, k.output.trans h.output, Nat.le_trans h.size k.size, fun i hi hs => by
    rw [k.block i (Nat.lt_of_lt_of_le hi h.size) (Nat.lt_of_lt_of_le hi hn)]; exact h.block i hi hs⟩
end Go.Eng
namespace Go.Proofs.Ytnobijngkpflcaa
open Go.Eng
set_option maxRecDepth 100000 in
theorem GetR_ok (x : V) (m : ByteArray) (w : World) (S : BSet) (v : Value) (hv : Rd w S x.d v) : Calls Try.prog 140 #[v, .string m] w (Ret w fun r W => ∃ r1, r = .tuple #[r1, .bool (grB x m)] ∧ Rd W (Ar w S) (V.d (grV x m)) r1) := by
 have hln : x.ns.length ≤ maxLen := by obtain ⟨_, _, _, _, _, _, h, _⟩ := rdV_out hv; exact rd_lenS h
 simp only [maxLen] at hln
 obtain ⟨cn0a, cn0c, ci0a, ci0c, ev, ht0, D_cn0, D_ci0⟩ := rdV_out (rd_arg hv)
 subst ev
 refine enter Try.func140 rfl Try.ntmps140 (lbr rfl) fun a0 y0 zz0 harg => ?_
 have e0 : sl a0 0 = (.agg #[(.int .u8 (x.k)), (.int .i64 (x.n)), (.string (x.t)), (.slice cn0a (x.ns.length) cn0c), (.slice ci0a (x.xs.length) ci0c)]) := harg 0 (lbr rfl)
 have e1 : sl a0 1 = (.string (m)) := harg 1 (lbr rfl)
 have kw := Keeps.refl All w
 clear harg
 refine zq fun K1 hK1 => ?_
 refine rg mixed y0 zz0 ?_
 refine .boxOp (v := (.agg #[(.int .u8 (x.k)), (.int .i64 (x.n)), (.string (x.t)), (.slice cn0a (x.ns.length) cn0c), (.slice ci0a (x.xs.length) ci0c)])) (hbs rfl e0) ?_
 refine .alloc z33 ?_
 refine .ac ?_
 refine .dn fun a2 g W2 y2 zz2 hk hg hV hR hP => ?_
 obtain ⟨-, ⟨b4_2, e4, hb4, own_b4_2⟩, ⟨b2_2, e2, hb2, own_b2_2⟩, -⟩ := hV
 have lo_b4_2 : w.heap.size ≤ b4_2 := Nat.le_trans kw.size (hg.lo _ _ hb4)
 have own_b4_2 : Own W2 b4_2 z5C 33 := own_b4_2
 have lo_b2_2 : w.heap.size ≤ b2_2 := Nat.le_trans kw.size (hg.lo _ _ hb2)
 have own_b2_2 : Own W2 b2_2 [(.int .u8 (x.k)), (.int .i64 (x.n)), (.string (x.t)), (.slice cn0a (x.ns.length) cn0c), (.slice ci0a (x.xs.length) ci0c)] 33 := own_b2_2
 have ne_b4_2_b2_2 : b4_2 ≠ b2_2 := fun h => by have := hg.inj _ _ _ hb4 (h ▸ hb2); cases this
 replace e1 := ft hR e1
 replace D_cn0 := sa_more D_cn0 hk [b4_2, b2_2] (in_cons (hg.lo _ _ hb4) (in_cons (hg.lo _ _ hb2) in_nil))
 replace D_ci0 := sa_more D_ci0 hk [b4_2, b2_2] (in_cons (hg.lo _ _ hb4) (in_cons (hg.lo _ _ hb2) in_nil))
 replace kw := kw.x hk
 clear hR hk hg hP hb4 hb2
 refine zn (hK1 _ _ ?_)
 refine zq fun K3 hK3 => ?_
 refine zq fun K4 hK4 => ?_
 refine rg mixed y2 zz2 ?_
 refine .i (fo 0 (hbs rfl e2) Try.underlying33 rfl sz5 rfl) ?_
 refine .i (lo1 (hlc rfl) own_b2_2 trivial agg5 sz5 rfl) ?_
 refine .i (sp_neq (hlc rfl) Has.cst) ?_
 refine .dn fun a5 g W5 y5 zz5 hk hg hV hR hP => ?_
 obtain ⟨e9, -, -, -⟩ := hV
 replace e1 := ft hR e1
 replace e4 := ft hR e4
 replace e2 := ft hR e2
 replace D_cn0 := D_cn0.ext hk
 replace D_ci0 := D_ci0.ext hk
 replace e9 := e9.q
 replace own_b4_2 := own_b4_2.ext hk
 replace own_b2_2 := own_b2_2.ext hk
 replace kw := kw.x hk
 clear hR hk hg hP
 refine zn (hK4 _ _ ?_)
 refine zc e9 (fun hc => ?_) (fun hc => ?_)
 ·
  have hfr : grR x m = none := by rw [grR, if_neg]; simp at hc; omega
  have hfb : grB x m = false := by rw [grB, hfr]; rfl
  have hfv : grV x m = V.zero := by rw [grV, hfr]; rfl
  refine zq fun K6 hK6 => ?_
  refine rg mixed y5 zz5 ?_
  refine .i (v := (.agg #[(.int .u8 (0)), (.int .i64 (0)), (.string (⟨#[]⟩)), (.slice none 0 0), (.slice none 0 0)])) (sp_build (vs := []) Try.underlying33 z33 (pl33 Try.underlying33) trivial rfl) ?_
  refine .dn fun a7 g W7 y7 zz7 hk hg hV hR hP => ?_
  obtain ⟨e10, -⟩ := hV
  replace e4 := ft hR e4
  replace D_cn0 := D_cn0.ext hk
  replace D_ci0 := D_ci0.ext hk
  replace e10 := e10.q
  replace own_b4_2 := own_b4_2.ext hk
  replace own_b2_2 := own_b2_2.ext hk
  replace kw := kw.x hk
  clear hR hk hg hP
  refine tail_store e4 e10 sz33 rfl own_b4_2 (lbr rfl) (all_cons rfl (all_cons rfl (all_cons rfl (all_cons rfl (all_cons rfl all_nil))))) (fun W8 hs own_b4_2 => ?_)
  have own_b4_2 : Own W8 b4_2 z5C 33 := own_b4_2
  replace own_b2_2 := own_store own_b2_2 hs ne_b4_2_b2_2.symm
  replace D_cn0 := sa_store D_cn0 hs (by simp)
  replace D_ci0 := sa_store D_ci0 hs (by simp)
  replace kw := keeps_store kw hs lo_b4_2
  clear hs
  refine tail_assign (v := (.bool (false))) rfl (by rw [y7]; exact Nat.le_of_ble_eq_true rfl) (fun a9 y9 zz9 e5 hr => ?_)
  replace y9 := y9.trans y7; replace zz9 := zz9.trans zz7
  replace e4 := (hr 4 (by decide)).trans e4
  replace e10 := (hr 10 (by decide)).trans e10
  clear hr
  refine zn (hK6 _ _ ?_)
  refine wp_ret ?_
  refine retCT (v := (.agg #[(.int .u8 (0)), (.int .i64 (0)), (.string (⟨#[]⟩)), (.slice none 0 0), (.slice none 0 0)])) rfl zz9 e4 own_b4_2 agg33 sz33 rfl (fun h => by cases h) rfl e5 ⟨_, rfl, kw, ?_⟩
  refine ⟨_, by rw [hfb], ?_⟩
  rw [hfv]
  exact sa_ar (rdV_mk (lbr rfl) (rd_nil _) (rd_nil _) : Rd W8 (SA w S [b4_2, b2_2]) (V.d (V.mk (0) (0) (⟨#[]⟩) ([]) ([]))) _)
 have hk5 : x.k = 5 := by simp at hc; omega
 have hg0 : grR x m = grO x.ns x.xs m := by rw [grR, if_pos hk5]
 refine wp_skip (hK3 _ _ ?_)
 refine zq fun K10 hK10 => ?_
 refine zq fun K11 hK11 => ?_
 refine rg mixed y5 zz5 ?_
 refine .ac ?_
 refine .dn fun a12 g W12 y12 zz12 hk hg hV hR hP => ?_
 obtain ⟨e6, -⟩ := hV
 replace e1 := ft hR e1
 replace e4 := ft hR e4
 replace e2 := ft hR e2
 replace D_cn0 := D_cn0.ext hk
 replace D_ci0 := D_ci0.ext hk
 replace e6 := e6.q
 replace own_b4_2 := own_b4_2.ext hk
 replace own_b2_2 := own_b2_2.ext hk
 replace kw := kw.x hk
 clear hR hk hg hP
 refine zn (hK11 _ _ ?_)
 refine wp_block ?_
 refine wp_for (x.ns.length) (fun k a W => a.tmps.size = 37 ∧ a.defers = [] ∧ Keeps All w W ∧ sl a 1 = (.string (m)) ∧ sl a 2 = (.pointer (some ⟨b2_2, 0, none⟩)) ∧ sl a 4 = (.pointer (some ⟨b4_2, 0, none⟩)) ∧ sl a 6 = (.int .i64 ((k : Nat))) ∧ Own W b4_2 z5C 33 ∧ Own W b2_2 [(.int .u8 (x.k)), (.int .i64 (x.n)), (.string (x.t)), (.slice cn0a (x.ns.length) cn0c), (.slice ci0a (x.xs.length) ci0c)] 33 ∧ Rd W (SA w S [b4_2, b2_2]) (strsD (x.ns)) (.slice cn0a (x.ns.length) cn0c) ∧ Rd W (SA w S [b4_2, b2_2]) (valsD (x.xs)) (.slice ci0a (x.xs.length) ci0c) ∧ (grO x.ns x.xs m = grO (x.ns.drop k) (x.xs.drop k) m)) ⟨y12, zz12, kw, e1, e2, e4, (e6.trans (congrArg (Value.int .i64) (rfl))), own_b4_2, own_b2_2, D_cn0, D_ci0, rfl⟩ ?_
 clear kw e1 e2 e4 e6 own_b4_2 own_b2_2 D_cn0 D_ci0
 rintro k a13 W13 hkk ⟨y13, zz13, kw, e1, e2, e4, e6, own_b4_2, own_b2_2, D_cn0, D_ci0, hin⟩
 refine zq fun K14 hK14 => ?_
 refine zq fun K15 hK15 => ?_
 refine rg mixed y13 zz13 ?_
 refine .mb rfl e6 ?_
 refine .i (fo 3 (hbs rfl e2) Try.underlying33 rfl sz23 rfl) ?_
 refine .i (lo1 (hlc rfl) own_b2_2 trivial agg23 sz23 rfl) ?_
 refine .i (sp_lenSs Try.underlying23 ((hlc rfl).dat D_cn0 sub_all)) ?_
 refine .i (sp_lss (hlc rfl) (hlc rfl)) ?_
 refine .dn fun a16 g W16 y16 zz16 hk hg hV hR hP => ?_
 obtain ⟨e15, -, -, -, -, -⟩ := hV
 replace e1 := ft hR e1
 replace e4 := ft hR e4
 replace e2 := ft hR e2
 replace e6 := ft hR e6
 replace D_cn0 := D_cn0.ext hk
 replace D_ci0 := D_ci0.ext hk
 replace e15 := e15.q
 replace own_b4_2 := own_b4_2.ext hk
 replace own_b2_2 := own_b2_2.ext hk
 replace kw := kw.x hk
 clear hR hk hg hP
 refine zn (hK15 _ _ ?_)
 refine zc e15 (fun hc => ?_) (fun hc => ?_)
 ·
  have hlt : k < x.ns.length := by simpa using hc
  refine wp_skip (hK14 _ _ ?_)
  refine zq fun K17 hK17 => ?_
  refine wp_block ?_
  refine zq fun K18 hK18 => ?_
  refine rg mixed y16 zz16 ?_
  refine .i (fo 3 (hbs rfl e2) Try.underlying33 rfl sz23 rfl) ?_
  refine .i (lo1 (hlc rfl) own_b2_2 trivial agg23 sz23 rfl) ?_
  refine .mb rfl e6 ?_
  refine .rf (sp_indexS (i := k) ((hlc rfl).dat D_cn0 sub_all) (hlc rfl) Try.underlying23 sz9 rfl hlt) ?_
  refine .i (sp_loadStr (hlc rfl) agg9 sz9) ?_
  refine .mb rfl e1 ?_
  refine .i (sp_sEql (hlc rfl) (hlc rfl)) ?_
  refine .dn fun a19 g W19 y19 zz19 hk hg hV hR hP => ?_
  obtain ⟨e24, -, -, -, -, -, -, -⟩ := hV
  replace e1 := ft hR e1
  replace e4 := ft hR e4
  replace e2 := ft hR e2
  replace e6 := ft hR e6
  replace D_cn0 := D_cn0.ext hk
  replace D_ci0 := D_ci0.ext hk
  replace e24 := e24.q
  replace own_b4_2 := own_b4_2.ext hk
  replace own_b2_2 := own_b2_2.ext hk
  replace kw := kw.x hk
  clear hR hk hg hP
  refine zn (hK18 _ _ ?_)
  refine zc e24 (fun hc => ?_) (fun hc => ?_)
  ·
   have heq : x.ns[k]'hlt = m := by simpa using hc
   have hhit := hg0.trans (hin.trans (gr_hit hlt heq))
   refine zq fun K20 hK20 => ?_
   refine zq fun K21 hK21 => ?_
   refine rg mixed y19 zz19 ?_
   refine .mb rfl e6 ?_
   refine .i (fo 4 (hbs rfl e2) Try.underlying33 rfl sz31 rfl) ?_
   refine .i (lo1 (hlc rfl) own_b2_2 trivial agg31 sz31 rfl) ?_
   refine .i (sp_lenVs Try.underlying31 ((hlc rfl).dat D_ci0 sub_all)) ?_
   refine .i (sp_lss (hlc rfl) (hlc rfl)) ?_
   refine .dn fun a22 g W22 y22 zz22 hk hg hV hR hP => ?_
   obtain ⟨e29, -, -, -, -, -⟩ := hV
   replace e4 := ft hR e4
   replace e2 := ft hR e2
   replace e6 := ft hR e6
   replace D_cn0 := D_cn0.ext hk
   replace D_ci0 := D_ci0.ext hk
   replace e29 := e29.q
   replace own_b4_2 := own_b4_2.ext hk
   replace own_b2_2 := own_b2_2.ext hk
   replace kw := kw.x hk
   clear hR hk hg hP
   refine zn (hK21 _ _ ?_)
   refine zc e29 (fun hc => ?_) (fun hc => ?_)
   ·
    have hlx : k < x.xs.length := by have := of_decide_eq_true hc; omega
    have hfr : grR x m = some x.xs[k] := by rw [hhit, List.getElem?_eq_getElem hlx]
    have hfb : grB x m = true := by rw [grB, hfr]; rfl
    have hfv : grV x m = x.xs[k] := by rw [grV, hfr]; rfl
    refine zq fun K23 hK23 => ?_
    refine rg mixed y22 zz22 ?_
    refine .i (fo 4 (hbs rfl e2) Try.underlying33 rfl sz31 rfl) ?_
    refine .i (lo1 (hlc rfl) own_b2_2 trivial agg31 sz31 rfl) ?_
    refine .mb rfl e6 ?_
    refine .rf (sp_indexV (i := k) ((hlc rfl).dat D_ci0 sub_all) (hlc rfl) Try.underlying31 sz33 rfl hlx) ?_
    refine .da (sp_loadV (hlc rfl) agg33 sz33) ?_
    refine .dn fun a24 g W24 y24 zz24 hk hg hV hR hP => ?_
    obtain ⟨e34, -, -, -, -, -⟩ := hV
    replace e4 := ft hR e4
    replace D_cn0 := D_cn0.ext hk
    replace D_ci0 := D_ci0.ext hk
    obtain ⟨v34_24, ev⟩ : ∃ v, sl a24 34 = v := ⟨_, rfl⟩
    rw [ev] at e34
    have D_v34_24 : Rd W24 (SA w S [b4_2, b2_2]) (V.d (x.xs[k]'hlx)) v34_24 := sa_end e34 hk [] in_nil
    replace e34 := ev; clear ev
    obtain ⟨cn34_24a, cn34_24c, ci34_24a, ci34_24c, ev, ht_v34_24, D_cn34_24, D_ci34_24⟩ := rdV_out D_v34_24
    subst ev; clear D_v34_24
    replace own_b4_2 := own_b4_2.ext hk
    replace own_b2_2 := own_b2_2.ext hk
    replace kw := kw.x hk
    clear hR hk hg hP
    refine tail_store e4 e34 sz33 rfl own_b4_2 (lbr rfl) (all_cons rfl (all_cons rfl (all_cons rfl (all_cons rfl (all_cons rfl all_nil))))) (fun W25 hs own_b4_2 => ?_)
    have own_b4_2 : Own W25 b4_2 [(.int .u8 ((x.xs[k]'hlx).k)), (.int .i64 ((x.xs[k]'hlx).n)), (.string ((x.xs[k]'hlx).t)), (.slice cn34_24a (((x.xs[k]'hlx).ns).length) cn34_24c), (.slice ci34_24a (((x.xs[k]'hlx).xs).length) ci34_24c)] 33 := own_b4_2
    replace own_b2_2 := own_store own_b2_2 hs ne_b4_2_b2_2.symm
    replace D_cn0 := sa_store D_cn0 hs (by simp)
    replace D_ci0 := sa_store D_ci0 hs (by simp)
    replace D_cn34_24 := sa_store D_cn34_24 hs (by simp)
    replace D_ci34_24 := sa_store D_ci34_24 hs (by simp)
    replace kw := keeps_store kw hs lo_b4_2
    clear hs
    refine tail_assign (v := (.bool (true))) rfl (by rw [y24]; exact Nat.le_of_ble_eq_true rfl) (fun a26 y26 zz26 e5 hr => ?_)
    replace y26 := y26.trans y24; replace zz26 := zz26.trans zz24
    replace e4 := (hr 4 (by decide)).trans e4
    replace e34 := (hr 34 (by decide)).trans e34
    clear hr
    refine zn (hK23 _ _ ?_)
    refine wp_ret ?_
    refine retCT (v := (.agg #[(.int .u8 ((x.xs[k]'hlx).k)), (.int .i64 ((x.xs[k]'hlx).n)), (.string ((x.xs[k]'hlx).t)), (.slice cn34_24a (((x.xs[k]'hlx).ns).length) cn34_24c), (.slice ci34_24a (((x.xs[k]'hlx).xs).length) ci34_24c)])) rfl zz26 e4 own_b4_2 agg33 sz33 rfl (fun h => by cases h) rfl e5 ⟨_, rfl, kw, ?_⟩
    refine ⟨_, by rw [hfb], ?_⟩
    rw [hfv]
    exact sa_ar (rdV_in (x := (x.xs[k]'hlx)) ht_v34_24 D_cn34_24 D_ci34_24 : Rd W25 (SA w S [b4_2, b2_2]) (V.d ((x.xs[k]'hlx))) _)
   have hfr : grR x m = none := by rw [hhit, List.getElem?_eq_none (by have := of_decide_eq_false hc; omega)]
   have hfb : grB x m = false := by rw [grB, hfr]; rfl
   have hfv : grV x m = V.zero := by rw [grV, hfr]; rfl
   refine wp_skip (hK20 _ _ ?_)
   refine zq fun K27 hK27 => ?_
   refine rg mixed y22 zz22 ?_
   refine .i (v := (.agg #[(.int .u8 (0)), (.int .i64 (0)), (.string (⟨#[]⟩)), (.slice none 0 0), (.slice none 0 0)])) (sp_build (vs := []) Try.underlying33 z33 (pl33 Try.underlying33) trivial rfl) ?_
   refine .dn fun a28 g W28 y28 zz28 hk hg hV hR hP => ?_
   obtain ⟨e35, -⟩ := hV
   replace e4 := ft hR e4
   replace D_cn0 := D_cn0.ext hk
   replace D_ci0 := D_ci0.ext hk
   replace e35 := e35.q
   replace own_b4_2 := own_b4_2.ext hk
   replace own_b2_2 := own_b2_2.ext hk
   replace kw := kw.x hk
   clear hR hk hg hP
   refine tail_store e4 e35 sz33 rfl own_b4_2 (lbr rfl) (all_cons rfl (all_cons rfl (all_cons rfl (all_cons rfl (all_cons rfl all_nil))))) (fun W29 hs own_b4_2 => ?_)
   have own_b4_2 : Own W29 b4_2 z5C 33 := own_b4_2
   replace own_b2_2 := own_store own_b2_2 hs ne_b4_2_b2_2.symm
   replace D_cn0 := sa_store D_cn0 hs (by simp)
   replace D_ci0 := sa_store D_ci0 hs (by simp)
   replace kw := keeps_store kw hs lo_b4_2
   clear hs
   refine tail_assign (v := (.bool (false))) rfl (by rw [y28]; exact Nat.le_of_ble_eq_true rfl) (fun a30 y30 zz30 e5 hr => ?_)
   replace y30 := y30.trans y28; replace zz30 := zz30.trans zz28
   replace e4 := (hr 4 (by decide)).trans e4
   replace e35 := (hr 35 (by decide)).trans e35
   clear hr
   refine zn (hK27 _ _ ?_)
   refine wp_ret ?_
   refine retCT (v := (.agg #[(.int .u8 (0)), (.int .i64 (0)), (.string (⟨#[]⟩)), (.slice none 0 0), (.slice none 0 0)])) rfl zz30 e4 own_b4_2 agg33 sz33 rfl (fun h => by cases h) rfl e5 ⟨_, rfl, kw, ?_⟩
   refine ⟨_, by rw [hfb], ?_⟩
   rw [hfv]
   exact sa_ar (rdV_mk (lbr rfl) (rd_nil _) (rd_nil _) : Rd W29 (SA w S [b4_2, b2_2]) (V.d (V.mk (0) (0) (⟨#[]⟩) ([]) ([]))) _)
  have hne : x.ns[k]'hlt ≠ m := by simpa using hc
  refine wp_skip (hK17 _ _ ?_)
  refine rg mixed y19 zz19 ?_
  refine .mb rfl e6 ?_
  refine .i (sp_add (hlc rfl) Has.cst (i64_in (by omega))) ?_
  refine .al rfl ?_
  refine .dn fun a31 g W31 y31 zz31 hk hg hV hR hP => ?_
  obtain ⟨e6, -, -, -⟩ := hV
  replace e1 := ft hR e1
  replace e4 := ft hR e4
  replace e2 := ft hR e2
  replace D_cn0 := D_cn0.ext hk
  replace D_ci0 := D_ci0.ext hk
  replace e6 := e6.q
  replace own_b4_2 := own_b4_2.ext hk
  replace own_b2_2 := own_b2_2.ext hk
  replace kw := kw.x hk
  clear hR hk hg hP
  exact tail_nil ⟨hlt, y31, zz31, kw, e1, e2, e4, (e6.trans (congrArg (Value.int .i64) (by simp))), own_b4_2, own_b2_2, D_cn0, D_ci0, hin.trans (gr_miss hlt hne)⟩
 have hge0 : ¬ k < x.ns.length := by simpa using hc
 have hge : k = x.ns.length := by omega
 have hfr : grR x m = none := by rw [hg0, hin, hge, List.drop_length]; rfl
 have hfb : grB x m = false := by rw [grB, hfr]; rfl
 have hfv : grV x m = V.zero := by rw [grV, hfr]; rfl
 refine wp_exit (hK10 _ _ ?_)
 refine zq fun K32 hK32 => ?_
 refine rg mixed y16 zz16 ?_
 refine .i (v := (.agg #[(.int .u8 (0)), (.int .i64 (0)), (.string (⟨#[]⟩)), (.slice none 0 0), (.slice none 0 0)])) (sp_build (vs := []) Try.underlying33 z33 (pl33 Try.underlying33) trivial rfl) ?_
 refine .dn fun a33 g W33 y33 zz33 hk hg hV hR hP => ?_
 obtain ⟨e36, -⟩ := hV
 replace e4 := ft hR e4
 replace D_cn0 := D_cn0.ext hk
 replace D_ci0 := D_ci0.ext hk
 replace e36 := e36.q
 replace own_b4_2 := own_b4_2.ext hk
 replace own_b2_2 := own_b2_2.ext hk
 replace kw := kw.x hk
 clear hR hk hg hP
 refine tail_store e4 e36 sz33 rfl own_b4_2 (lbr rfl) (all_cons rfl (all_cons rfl (all_cons rfl (all_cons rfl (all_cons rfl all_nil))))) (fun W34 hs own_b4_2 => ?_)
 have own_b4_2 : Own W34 b4_2 z5C 33 := own_b4_2
 replace own_b2_2 := own_store own_b2_2 hs ne_b4_2_b2_2.symm
 replace D_cn0 := sa_store D_cn0 hs (by simp)
 replace D_ci0 := sa_store D_ci0 hs (by simp)
 replace kw := keeps_store kw hs lo_b4_2
 clear hs
 refine tail_assign (v := (.bool (false))) rfl (by rw [y33]; exact Nat.le_of_ble_eq_true rfl) (fun a35 y35 zz35 e5 hr => ?_)
 replace y35 := y35.trans y33; replace zz35 := zz35.trans zz33
 replace e4 := (hr 4 (by decide)).trans e4
 replace e36 := (hr 36 (by decide)).trans e36
 clear hr
 refine zn (hK32 _ _ ?_)
 refine wp_ret ?_
 refine retCT (v := (.agg #[(.int .u8 (0)), (.int .i64 (0)), (.string (⟨#[]⟩)), (.slice none 0 0), (.slice none 0 0)])) rfl zz35 e4 own_b4_2 agg33 sz33 rfl (fun h => by cases h) rfl e5 ⟨_, rfl, kw, ?_⟩
 refine ⟨_, by rw [hfb], ?_⟩
 rw [hfv]
 exact sa_ar (rdV_mk (lbr rfl) (rd_nil _) (rd_nil _) : Rd W34 (SA w S [b4_2, b2_2]) (V.d (V.mk (0) (0) (⟨#[]⟩) ([]) ([]))) _)
end Go.Proofs.Ytnobijngkpflcaa
namespace Go.Proofs.Ytnobijngkpflcaa
open Go.Eng
set_option maxRecDepth 100000 in
theorem SameAll_ok (p q : List V) (hp : (V.mk 0 0 ⟨#[]⟩ [] p).cnt ≤ 1073741824) (w : World) (S : BSet) (v u : Value) (hv : Rd w S (valsD p) v) (hu : Rd w S (valsD q) u) : Calls Try.prog 86 #[v, u] w (Ret w fun r _ => r = .bool (V.beq (V.mk 0 0 ⟨#[]⟩ [] p) (V.mk 0 0 ⟨#[]⟩ [] q))) := by
 obtain ⟨va, vc, ev, D_v⟩ := rdVs_out (rd_arg hv)
 subst ev
 obtain ⟨ua, uc, ev, D_u⟩ := rdVs_out (rd_arg hu)
 subst ev
 refine enter Try.func86 rfl Try.ntmps86 (lbr rfl) fun a0 y0 zz0 harg => ?_
 have e0 : sl a0 0 = (.slice va (p.length) vc) := harg 0 (lbr rfl)
 have e1 : sl a0 1 = (.slice ua (q.length) uc) := harg 1 (lbr rfl)
 have kw := Keeps.refl All w
 clear harg
 refine zq fun K1 hK1 => ?_
 refine rg mixed y0 zz0 ?_
 refine .ac ?_
 refine .dn fun a2 g W2 y2 zz2 hk hg hV hR hP => ?_
 obtain ⟨-, -⟩ := hV
 replace e0 := ft hR e0
 replace e1 := ft hR e1
 replace D_v := D_v.ext hk
 replace D_u := D_u.ext hk
 replace kw := kw.x hk
 clear hR hk hg hP
 refine zn (hK1 _ _ ?_)
 refine zq fun K3 hK3 => ?_
 refine rg mixed y2 zz2 ?_
 refine .mb rfl e0 ?_
 refine .i (v := (.agg #[(.int .u8 (0)), (.int .i64 (0)), (.string (⟨#[]⟩)), (.slice none 0 0), (.slice va (p.length) vc)])) (sp_build (vs := [(4, (.slice va (p.length) vc))]) Try.underlying33 z33 (pl33 Try.underlying33) ⟨rfl, (hlc rfl), trivial⟩ rfl) ?_
 refine .mb rfl e1 ?_
 refine .i (v := (.agg #[(.int .u8 (0)), (.int .i64 (0)), (.string (⟨#[]⟩)), (.slice none 0 0), (.slice ua (q.length) uc)])) (sp_build (vs := [(4, (.slice ua (q.length) uc))]) Try.underlying33 z33 (pl33 Try.underlying33) ⟨rfl, (hlc rfl), trivial⟩ rfl) ?_
 refine .i (v := (.bool (V.beq (V.mk (0) (0) (⟨#[]⟩) ([]) (p)) (V.mk (0) (0) (⟨#[]⟩) ([]) (q))))) (sp_call2 (φ1 := IsD (SA w S []) (V.d (V.mk (0) (0) (⟨#[]⟩) ([]) (p)))) (φ2 := IsD (SA w S []) (V.d (V.mk (0) (0) (⟨#[]⟩) ([]) (q)))) ent34 ((hlc rfl).dat (rdV_mk (lbr rfl) (rd_nil _) D_v : Rd W2 (SA w S []) (V.d (V.mk (0) (0) (⟨#[]⟩) ([]) (p))) _) sub_all) ((hlc rfl).dat (rdV_mk (lbr rfl) (rd_nil _) D_u : Rd W2 (SA w S []) (V.d (V.mk (0) (0) (⟨#[]⟩) ([]) (q))) _) sub_all) (fun g u1 u2 W hk hgk h1 h2 => refSame_all _ (V.mk (0) (0) (⟨#[]⟩) ([]) (p)) (V.mk (0) (0) (⟨#[]⟩) ([]) (q)) (Nat.le_refl _) (by first | omega | exact Nat.le_of_ble_eq_true (by kernel_rfl)) W _ _ _ h1 h2)) ?_
 refine .al rfl ?_
 refine .dn fun a4 g W4 y4 zz4 hk hg hV hR hP => ?_
 obtain ⟨e4, -, -, -, -, -, -⟩ := hV
 replace D_v := D_v.ext hk
 replace D_u := D_u.ext hk
 replace e4 := e4.q
 replace kw := kw.x hk
 clear hR hk hg hP
 refine zn (hK3 _ _ ?_)
 refine wp_ret ?_
 refine ret1 rfl zz4 e4 ⟨_, rfl, kw, ?_⟩
 exact rfl
set_option maxRecDepth 100000 in
theorem texts11_ok (p q : List ByteArray) (w : World) (S : BSet) (v u : Value) (hv : Rd w S (strsD p) v) (hu : Rd w S (strsD q) u) : Calls Try.prog 89 #[v, u] w (Ret w fun r _ => r = .bool (decide (p = q))) := by
 have hln : p.length ≤ maxLen := rd_lenS hv
 simp only [maxLen] at hln
 obtain ⟨va, vc, ev, D_v⟩ := rdS_out (rd_arg hv)
 subst ev
 obtain ⟨ua, uc, ev, D_u⟩ := rdS_out (rd_arg hu)
 subst ev
 refine enter Try.func89 rfl Try.ntmps89 (lbr rfl) fun a0 y0 zz0 harg => ?_
 have e0 : sl a0 0 = (.slice va (p.length) vc) := harg 0 (lbr rfl)
 have e1 : sl a0 1 = (.slice ua (q.length) uc) := harg 1 (lbr rfl)
 have kw := Keeps.refl All w
 clear harg
 refine zq fun K1 hK1 => ?_
 refine rg mixed y0 zz0 ?_
 refine .ac ?_
 refine .dn fun a2 g W2 y2 zz2 hk hg hV hR hP => ?_
 obtain ⟨-, -⟩ := hV
 replace e0 := ft hR e0
 replace e1 := ft hR e1
 replace D_v := D_v.ext hk
 replace D_u := D_u.ext hk
 replace kw := kw.x hk
 clear hR hk hg hP
 refine zn (hK1 _ _ ?_)
 refine zq fun K3 hK3 => ?_
 refine zq fun K4 hK4 => ?_
 refine rg mixed y2 zz2 ?_
 refine .mb rfl e0 ?_
 refine .i (sp_lenSs Try.underlying23 ((hlc rfl).dat D_v sub_all)) ?_
 refine .mb rfl e1 ?_
 refine .i (sp_lenSs Try.underlying23 ((hlc rfl).dat D_u sub_all)) ?_
 refine .i (sp_neq (hlc rfl) (hlc rfl)) ?_
 refine .dn fun a5 g W5 y5 zz5 hk hg hV hR hP => ?_
 obtain ⟨e10, -, -, -, -, -⟩ := hV
 replace e0 := ft hR e0
 replace e1 := ft hR e1
 replace D_v := D_v.ext hk
 replace D_u := D_u.ext hk
 replace e10 := e10.q
 replace kw := kw.x hk
 clear hR hk hg hP
 refine zn (hK4 _ _ ?_)
 refine zc e10 (fun hc => ?_) (fun hc => ?_)
 ·
  have hfin : decide (p = q) = false := decide_eq_false fun h => by rw [h] at hc; simp at hc
  refine zq fun K6 hK6 => ?_
  refine rg mixed y5 zz5 ?_
  refine .ac ?_
  refine .dn fun a7 g W7 y7 zz7 hk hg hV hR hP => ?_
  obtain ⟨e4, -⟩ := hV
  replace D_v := D_v.ext hk
  replace D_u := D_u.ext hk
  replace e4 := e4.q
  replace kw := kw.x hk
  clear hR hk hg hP
  refine zn (hK6 _ _ ?_)
  refine wp_ret ?_
  refine ret1 rfl zz7 e4 ⟨_, rfl, kw, ?_⟩
  rw [hfin]
 have hlen : p.length = q.length := by simp at hc; omega
 refine wp_skip (hK3 _ _ ?_)
 refine zq fun K8 hK8 => ?_
 refine zq fun K9 hK9 => ?_
 refine rg mixed y5 zz5 ?_
 refine .ac ?_
 refine .dn fun a10 g W10 y10 zz10 hk hg hV hR hP => ?_
 obtain ⟨e5, -⟩ := hV
 replace e0 := ft hR e0
 replace e1 := ft hR e1
 replace D_v := D_v.ext hk
 replace D_u := D_u.ext hk
 replace e5 := e5.q
 replace kw := kw.x hk
 clear hR hk hg hP
 refine zn (hK9 _ _ ?_)
 refine wp_block ?_
 refine wp_for (p.length) (fun k a W => a.tmps.size = 26 ∧ a.defers = [] ∧ Keeps All w W ∧ sl a 0 = (.slice va (p.length) vc) ∧ sl a 1 = (.slice ua (q.length) uc) ∧ sl a 5 = (.int .i64 ((k : Nat))) ∧ Rd W (SA w S []) (strsD (p)) (.slice va (p.length) vc) ∧ Rd W (SA w S []) (strsD (q)) (.slice ua (q.length) uc) ∧ (∀ i (h1 : i < p.length) (h2 : i < q.length), i < k → p[i] = q[i])) ⟨y10, zz10, kw, e0, e1, (e5.trans (congrArg (Value.int .i64) (rfl))), D_v, D_u, fun i h1 h2 hi => absurd hi (by omega)⟩ ?_
 clear kw e0 e1 e5 D_v D_u
 rintro k a11 W11 hkk ⟨y11, zz11, kw, e0, e1, e5, D_v, D_u, hinv⟩
 refine zq fun K12 hK12 => ?_
 refine zq fun K13 hK13 => ?_
 refine rg mixed y11 zz11 ?_
 refine .mb rfl e5 ?_
 refine .mb rfl e0 ?_
 refine .i (sp_lenSs Try.underlying23 ((hlc rfl).dat D_v sub_all)) ?_
 refine .i (sp_lss (hlc rfl) (hlc rfl)) ?_
 refine .dn fun a14 g W14 y14 zz14 hk hg hV hR hP => ?_
 obtain ⟨e14, -, -, -, -⟩ := hV
 replace e0 := ft hR e0
 replace e1 := ft hR e1
 replace e5 := ft hR e5
 replace D_v := D_v.ext hk
 replace D_u := D_u.ext hk
 replace e14 := e14.q
 replace kw := kw.x hk
 clear hR hk hg hP
 refine zn (hK13 _ _ ?_)
 refine zc e14 (fun hc => ?_) (fun hc => ?_)
 ·
  have hlt : k < p.length := by simpa using hc
  have hlq : k < q.length := by omega
  refine wp_skip (hK12 _ _ ?_)
  refine zq fun K15 hK15 => ?_
  refine wp_block ?_
  refine zq fun K16 hK16 => ?_
  refine rg mixed y14 zz14 ?_
  refine .mb rfl e0 ?_
  refine .mb rfl e5 ?_
  refine .rf (sp_indexS (i := k) ((hlc rfl).dat D_v sub_all) (hlc rfl) Try.underlying23 sz9 rfl hlt) ?_
  refine .i (sp_loadStr (hlc rfl) agg9 sz9) ?_
  refine .mb rfl e1 ?_
  refine .mb rfl e5 ?_
  refine .rf (sp_indexS (i := k) ((hlc rfl).dat D_u sub_all) (hlc rfl) Try.underlying23 sz9 rfl hlq) ?_
  refine .i (sp_loadStr (hlc rfl) agg9 sz9) ?_
  refine .i (sp_sNeq (hlc rfl) (hlc rfl)) ?_
  refine .dn fun a17 g W17 y17 zz17 hk hg hV hR hP => ?_
  obtain ⟨e25, -, -, -, -, -, -, -, -, -⟩ := hV
  replace e0 := ft hR e0
  replace e1 := ft hR e1
  replace e5 := ft hR e5
  replace D_v := D_v.ext hk
  replace D_u := D_u.ext hk
  replace e25 := e25.q
  replace kw := kw.x hk
  clear hR hk hg hP
  refine zn (hK16 _ _ ?_)
  refine zc e25 (fun hc => ?_) (fun hc => ?_)
  ·
   have hfin : decide (p = q) = false := decide_eq_false fun h => by subst h; simp at hc
   refine zq fun K18 hK18 => ?_
   refine rg mixed y17 zz17 ?_
   refine .ac ?_
   refine .dn fun a19 g W19 y19 zz19 hk hg hV hR hP => ?_
   obtain ⟨e4, -⟩ := hV
   replace D_v := D_v.ext hk
   replace D_u := D_u.ext hk
   replace e4 := e4.q
   replace kw := kw.x hk
   clear hR hk hg hP
   refine zn (hK18 _ _ ?_)
   refine wp_ret ?_
   refine ret1 rfl zz19 e4 ⟨_, rfl, kw, ?_⟩
   rw [hfin]
  have hk1 : p[k]'hlt = q[k]'hlq := by simpa using hc
  refine wp_skip (hK15 _ _ ?_)
  refine rg mixed y17 zz17 ?_
  refine .mb rfl e5 ?_
  refine .i (sp_add (hlc rfl) Has.cst (i64_in (by omega))) ?_
  refine .al rfl ?_
  refine .dn fun a20 g W20 y20 zz20 hk hg hV hR hP => ?_
  obtain ⟨e5, -, -, -⟩ := hV
  replace e0 := ft hR e0
  replace e1 := ft hR e1
  replace D_v := D_v.ext hk
  replace D_u := D_u.ext hk
  replace e5 := e5.q
  replace kw := kw.x hk
  clear hR hk hg hP
  exact tail_nil ⟨hlt, y20, zz20, kw, e0, e1, (e5.trans (congrArg (Value.int .i64) (by simp))), D_v, D_u, fun i h1 h2 hi => by rcases Nat.lt_succ_iff_lt_or_eq.1 hi with h3 | h3; exact hinv i h1 h2 h3; subst h3; exact hk1⟩
 have hge0 : ¬ k < p.length := by simpa using hc
 have hge : k = p.length := by omega
 have hfin : decide (p = q) = true := decide_eq_true (List.ext_getElem hlen fun i h1 h2 => hinv i h1 h2 (by omega))
 refine wp_exit (hK8 _ _ ?_)
 refine zq fun K21 hK21 => ?_
 refine rg mixed y14 zz14 ?_
 refine .ac ?_
 refine .dn fun a22 g W22 y22 zz22 hk hg hV hR hP => ?_
 obtain ⟨e4, -⟩ := hV
 replace D_v := D_v.ext hk
 replace D_u := D_u.ext hk
 replace e4 := e4.q
 replace kw := kw.x hk
 clear hR hk hg hP
 refine zn (hK21 _ _ ?_)
 refine wp_ret ?_
 refine ret1 rfl zz22 e4 ⟨_, rfl, kw, ?_⟩
 rw [hfin]
set_option maxRecDepth 100000 in
theorem spoil0_ok (v : Value) (hv : NilS v) (w : World) : Calls Try.prog 88 #[v] w (Ret w fun _ _ => True) := by
 obtain ⟨va, vc, rfl⟩ := hv
 refine enter Try.func88 rfl Try.ntmps88 (lbr rfl) fun a0 y0 zz0 harg => ?_
 have e0 : sl a0 0 = (.slice va 0 vc) := harg 0 (lbr rfl)
 have kw := Keeps.refl All w
 clear harg
 refine zq fun K1 hK1 => ?_
 refine rg mixed y0 zz0 ?_
 refine .ac ?_
 refine .dn fun a2 g W2 y2 zz2 hk hg hV hR hP => ?_
 obtain ⟨e2, -⟩ := hV
 replace e0 := ft hR e0
 replace e2 := e2.q
 replace kw := kw.x hk
 clear hR hk hg hP
 refine zn (hK1 _ _ ?_)
 refine wp_block ?_
 refine wp_loopAt (loopAt ?_)
 refine zq fun K3 hK3 => ?_
 refine zq fun K4 hK4 => ?_
 refine rg mixed y2 zz2 ?_
 refine .mb rfl e2 ?_
 refine .mb rfl e0 ?_
 refine .i (sp_lenV Try.underlying31 (hlc rfl)) ?_
 refine .i (sp_lss (hlc rfl) (hlc rfl)) ?_
 refine .dn fun a5 g W5 y5 zz5 hk hg hV hR hP => ?_
 obtain ⟨e7, -, -, -, -⟩ := hV
 replace e0 := ft hR e0
 replace e2 := ft hR e2
 replace e7 := e7.q
 replace kw := kw.x hk
 clear hR hk hg hP
 refine zn (hK4 _ _ ?_)
 refine wp_cond_false (e7.trans (congrArg Value.bool (by decide))) ?_
 refine wp_exit ?_
 refine ret0 rfl zz5 ⟨_, rfl, kw, ?_⟩
 trivial
end Go.Proofs.Ytnobijngkpflcaa
namespace Go.Eng
def ZB (Z : Nat → Prop) : BSet := fun b o => Z b ∧ Cln o
structure Soft (W W' : World) : Prop where
  size : W.heap.size ≤ W'.heap.size
  cln : ∀ b : Nat, Cln W.heap[b]? → Cln W'.heap[b]?
  str : ∀ b q s, W.cell? ⟨b, q, none⟩ = some (.string s) → s.size ≤ maxLen → ∃ s', W'.cell? ⟨b, q, none⟩ = some (.string s') ∧ s'.size ≤ maxLen
  ent : ∀ (b q k : Nat) (n : Int) t a1 m1 c1 a2 m2 c2, CellsAt W b q [.int .u8 k, .int .i64 n, .string t, .slice a1 m1 c1, .slice a2 m2 c2] → t.size ≤ maxLen →
    ∃ (k' : Nat) (n' : Int) (t' : ByteArray), t'.size ≤ maxLen ∧ (CellsAt W' b q [.int .u8 k', .int .i64 n', .string t', .slice a1 m1 c1, .slice a2 m2 c2] ∨ CellsAt W' b q [.int .u8 k', .int .i64 n', .string t', .slice none 0 0, .slice none 0 0])
theorem rdcV_out {W : World} {S : BSet} {x : V} {cs : List Value} (h : RdC W S x.d cs) : ∃ a1 c1 a2 c2, cs = [.int .u8 x.k, .int .i64 x.n, .string x.t, .slice a1 x.ns.length c1, .slice a2 x.xs.length c2] ∧ x.t.size ≤ maxLen ∧ RdC W S (strsD x.ns) [.slice a1 x.ns.length c1] ∧ RdC W S (valsD x.xs) [.slice a2 x.xs.length c2] := by
  obtain ⟨cn, ci, ev, ht, h1, h2⟩ := rd_V.1 (⟨cs, h, by cases x; rfl⟩ : Rd W S x.d (.agg cs.toArray))
  injection ev with ev
  have e := congrArg Array.toList ev
  simp only [strsD, valsD, RdC] at h1 h2
  obtain ⟨a1, c1, e1, r1⟩ := h1
  obtain ⟨a2, c2, e2, r2⟩ := h2
  simp only [List.cons.injEq, and_true, List.length_map] at e1 e2
  subst e1; subst e2
  refine ⟨a1, c1, a2, c2, e, ht, ?_, ?_⟩
  · simp only [strsD, RdC]; exact ⟨a1, c1, by simp, r1⟩
  · simp only [valsD, RdC]; exact ⟨a2, c2, by simp, r2⟩
theorem rdcV_in {W : World} {S : BSet} {x : V} {cn ci : Value} (ht : x.t.size ≤ maxLen) (h1 : RdC W S (strsD x.ns) [cn]) (h2 : RdC W S (valsD x.xs) [ci]) : RdC W S x.d [.int .u8 x.k, .int .i64 x.n, .string x.t, cn, ci] := by
  obtain ⟨cs, hr, e⟩ := rd_V.2 ⟨cn, ci, rfl, ht, h1, h2⟩
  have : cs = [.int .u8 x.k, .int .i64 x.n, .string x.t, cn, ci] := by
    cases x
    simp only [V.d, asm] at e
    injection e with e
    exact (congrArg Array.toList e).symm
  rw [← this]; exact hr
theorem rdc_nil {W : World} {S : BSet} (sz : Nat) : RdC W S (.lst sz []) [.slice none 0 0] := by simp only [RdC]; exact ⟨none, 0, rfl, by simp, by simp, .inl trivial⟩
section
variable {W W' : World} {Z : Nat → Prop}
theorem soft_strsL (h : Soft W W') {b : Nat} : ∀ (ns : List ByteArray) (o : Nat), RdL W (ZB Z) b 1 (ns.map D.str) o → ∃ ns' : List ByteArray, ns'.length = ns.length ∧ RdL W' (ZB Z) b 1 (ns'.map D.str) o
  | [], _, _ => ⟨[], rfl, by simp [RdL]⟩
  | s :: ns, o, hl => by
    simp only [List.map_cons, RdL] at hl
    obtain ⟨⟨cs, h1, h2, h3⟩, h4⟩ := hl
    obtain ⟨ns', e1, e2⟩ := soft_strsL h ns (o + 1) h4
    simp only [RdC] at h3
    obtain ⟨rfl, hs⟩ := h3
    obtain ⟨s', q1, q2⟩ := h.str b o s (h2 0 (by simp)) hs
    refine ⟨s' :: ns', by simp [e1], ?_⟩
    simp only [List.map_cons, RdL]
    refine ⟨⟨[.string s'], rfl, fun i hi => ?_, ⟨rfl, q2⟩⟩, e2⟩
    have hi0 : i = 0 := by simpa using hi
    subst hi0; exact q1
theorem soft_strs (h : Soft W W') {ns : List ByteArray} {cs : List Value} (hr : RdC W (ZB Z) (strsD ns) cs) : ∃ ns' : List ByteArray, ns'.length = ns.length ∧ RdC W' (ZB Z) (strsD ns') cs := by
  simp only [strsD, RdC] at hr
  obtain ⟨a, cap, h1, h2, h3, h4⟩ := hr
  rcases h4 with h4 | ⟨b, o, ha, hb, hlt, hl⟩
  · refine ⟨ns, rfl, ?_⟩
    simp only [strsD, RdC]
    exact ⟨a, cap, h1, h2, h3, .inl h4⟩
  · obtain ⟨ns', e1, e2⟩ := soft_strsL h ns o hl
    refine ⟨ns', e1, ?_⟩
    simp only [strsD, RdC, List.length_map, e1] at h1 h2 ⊢
    exact ⟨a, cap, h1, h2, h3, .inr ⟨b, o, ha, ⟨hb.1, h.cln b hb.2⟩, Nat.lt_of_lt_of_le hlt h.size, e2⟩⟩
mutual
theorem soft_V (h : Soft W W') : ∀ (x : V) (b o : Nat) (cs : List Value), CellsAt W b o cs → RdC W (ZB Z) x.d cs → ∃ (x' : V) (cs' : List Value), cs'.length = 5 ∧ CellsAt W' b o cs' ∧ RdC W' (ZB Z) x'.d cs' ∧ x'.cnt ≤ x.cnt
  | .mk k n t ns xs, b, o, cs, hc, hr => by
    obtain ⟨a1, c1, a2, c2, rfl, ht, h1, h2⟩ := rdcV_out hr
    obtain ⟨k', n', t', ht', hc'⟩ := h.ent b o k n t a1 ns.length c1 a2 xs.length c2 hc ht
    rcases hc' with hc' | hc'
    · obtain ⟨ns', e1, e2⟩ := soft_strs h h1
      have hx : ∃ xs' : List V, xs'.length = xs.length ∧ V.cnts xs' ≤ V.cnts xs ∧ RdC W' (ZB Z) (valsD xs') [.slice a2 xs.length c2] := by
        simp only [valsD, RdC] at h2
        obtain ⟨a, cap, q1, q2, q3, q4⟩ := h2
        rcases q4 with q4 | ⟨b2, o2, ha, hb, hlt, hl⟩
        · refine ⟨xs, rfl, Nat.le_refl _, ?_⟩
          simp only [valsD, RdC]
          exact ⟨a, cap, q1, q2, q3, .inl q4⟩
        · obtain ⟨xs', e3, e4, e5⟩ := soft_vals h xs b2 o2 hl
          refine ⟨xs', e3, e4, ?_⟩
          simp only [valsD, RdC, List.length_map, e3] at q1 q2 ⊢
          exact ⟨a, cap, q1, q2, q3, .inr ⟨b2, o2, ha, ⟨hb.1, h.cln b2 hb.2⟩, Nat.lt_of_lt_of_le hlt h.size, e5⟩⟩
      obtain ⟨xs', e3, e4, e5⟩ := hx
      refine ⟨⟨k', n', t', ns', xs'⟩, _, rfl, hc', rdcV_in ht' e2 e5, ?_⟩
      simp only [V.cnt]
      omega
    · refine ⟨⟨k', n', t', [], []⟩, _, rfl, hc', rdcV_in ht' (rdc_nil 1) (rdc_nil 5), ?_⟩
      simp only [V.cnt, V.cnts]
      omega
theorem soft_vals (h : Soft W W') : ∀ (xs : List V) (b o : Nat), RdL W (ZB Z) b 5 (xs.map V.d) o → ∃ xs' : List V, xs'.length = xs.length ∧ V.cnts xs' ≤ V.cnts xs ∧ RdL W' (ZB Z) b 5 (xs'.map V.d) o
  | [], _, _, _ => ⟨[], rfl, Nat.le_refl _, by simp [RdL]⟩
  | x :: xs, b, o, hl => by
    simp only [List.map_cons, RdL] at hl
    obtain ⟨⟨cs, h1, h2, h3⟩, h4⟩ := hl
    obtain ⟨x', cs', q1, q2, q3, q4⟩ := soft_V h x b o cs h2 h3
    obtain ⟨xs', e1, e2, e3⟩ := soft_vals h xs b (o + 5) h4
    refine ⟨x' :: xs', by simp [e1], by simp only [V.cnts]; omega, ?_⟩
    simp only [List.map_cons, RdL]
    exact ⟨⟨cs', q1, q2, q3⟩, e3⟩
end
theorem rd_lst {W : World} {S : BSet} {sz : Nat} {ds : List D} {v : Value} : Rd W S (.lst sz ds) v ↔ RdC W S (.lst sz ds) [v] := by
  constructor
  · rintro ⟨cs, h, rfl⟩
    have h' := h
    simp only [RdC] at h'
    obtain ⟨a, cap, rfl, _⟩ := h'
    exact h
  · exact fun h => ⟨[v], h, rfl⟩
structure Mut (Z : Nat → Prop) (W W' : World) : Prop where
  keeps : Keeps (fun k => ¬ Z k) W W'
  vals : ∀ (xs : List V) v, Rd W (ZB Z) (valsD xs) v → ∃ xs' : List V, xs'.length = xs.length ∧ V.cnts xs' ≤ V.cnts xs ∧ Rd W' (ZB Z) (valsD xs') v
  strs : ∀ (ns : List ByteArray) v, Rd W (ZB Z) (strsD ns) v → ∃ ns' : List ByteArray, ns'.length = ns.length ∧ Rd W' (ZB Z) (strsD ns') v
theorem Mut.of_ext (k : Ext W W') : Mut Z W W' := ⟨.of_ext k, fun xs v h => ⟨xs, rfl, Nat.le_refl _, h.ext k⟩, fun ns v h => ⟨ns, rfl, h.ext k⟩⟩
theorem Mut.trans {W1 : World} (h : Mut Z W W1) (h' : Mut Z W1 W') : Mut Z W W' := ⟨h.keeps.trans h'.keeps, fun xs v hr => by
  obtain ⟨x1, e1, e2, e3⟩ := h.vals xs v hr
  obtain ⟨x2, e4, e5, e6⟩ := h'.vals x1 v e3
  exact ⟨x2, e4.trans e1, Nat.le_trans e5 e2, e6⟩, fun ns v hr => by
  obtain ⟨x1, e1, e3⟩ := h.strs ns v hr
  obtain ⟨x2, e4, e6⟩ := h'.strs x1 v e3
  exact ⟨x2, e4.trans e1, e6⟩⟩
theorem Mut.ext {W1 : World} (h : Mut Z W W1) (k : Ext W1 W') : Mut Z W W' := h.trans (.of_ext k)
theorem Mut.of_soft (k : Keeps (fun k => ¬ Z k) W W') (h : Soft W W') : Mut Z W W' := ⟨k, fun xs v hr => by
  rw [valsD, rd_lst] at hr
  simp only [RdC] at hr
  obtain ⟨a, cap, q1, q2, q3, q4⟩ := hr
  rcases q4 with q4 | ⟨b2, o2, ha, hb, hlt, hl⟩
  · refine ⟨xs, rfl, Nat.le_refl _, ?_⟩
    rw [valsD, rd_lst]
    simp only [RdC]
    exact ⟨a, cap, q1, q2, q3, .inl q4⟩
  · obtain ⟨xs', e3, e4, e5⟩ := soft_vals h xs b2 o2 hl
    refine ⟨xs', e3, e4, ?_⟩
    rw [valsD, rd_lst]
    simp only [RdC, List.length_map, e3] at q1 q2 ⊢
    exact ⟨a, cap, q1, q2, q3, .inr ⟨b2, o2, ha, ⟨hb.1, h.cln b2 hb.2⟩, Nat.lt_of_lt_of_le hlt h.size, e5⟩⟩, fun ns v hr => by
  rw [strsD, rd_lst] at hr
  obtain ⟨ns', e1, e2⟩ := soft_strs h (show RdC W (ZB Z) (strsD ns) [v] from hr)
  refine ⟨ns', e1, ?_⟩
  rw [strsD, rd_lst]
  exact e2⟩
theorem st_mut {W0 : World} : StableE fun W => Mut Z W0 W := fun _ _ k h => h.ext k
def RetM (W : World) (Z : Nat → Prop) : Ending → World → Prop := fun e W' => ∃ v, e = .returned v ∧ Mut Z W W'
theorem cell_lt {W : World} {b q : Nat} {v : Value} (h : W.cell? ⟨b, q, none⟩ = some v) : b < W.heap.size := by
  unfold World.cell? at h
  simp only at h
  cases hb : W.heap[b]? with
  | none => rw [hb] at h; simp at h
  | some o => exact (Array.getElem?_eq_some_iff.1 hb).1
theorem cln_lt {W : World} {b : Nat} (h : Cln W.heap[b]?) : b < W.heap.size := by
  obtain ⟨c, T, h⟩ := h
  exact (Array.getElem?_eq_some_iff.1 h).1
theorem keep_cell {g b q : Nat} {v : Value} (k : Keeps (fun x => x ≠ g) W W') (hb : b ≠ g) (h : W.cell? ⟨b, q, none⟩ = some v) : W'.cell? ⟨b, q, none⟩ = some v :=
  (World.cell?_of_block (w := W) (a := ⟨b, q, none⟩) (k.block b (cell_lt h) hb)).trans h
theorem splice_get {cs vs : List Value} {o q : Nat} (h : o + vs.length ≤ cs.length) : (splice cs o vs)[q]? = if o ≤ q ∧ q < o + vs.length then vs[q - o]? else cs[q]? := by
  split
  · rename_i hq
    have := splice_in h (j := q - o) (by omega)
    rwa [show o + (q - o) = q by omega] at this
  · exact splice_out h (by omega)
theorem soft_of {g p : Nat} {cs vs : List Value} {T : TypeId} (ho : Own W g cs T) (k : Keeps (fun x => x ≠ g) W W') (hf : p + vs.length ≤ cs.length) (ho' : Own W' g (splice cs p vs) T)
    (hs : ∀ q s, p ≤ q → q < p + vs.length → cs[q]? = some (.string s) → ∃ s', vs[q - p]? = some (.string s') ∧ s'.size ≤ maxLen)
    (he : ∀ (q k : Nat) (n : Int) t a1 m1 c1 a2 m2 c2, (∀ i (hi : i < 5), cs[q + i]? = some ([Value.int .u8 k, .int .i64 n, .string t, .slice a1 m1 c1, .slice a2 m2 c2][i]'hi)) → t.size ≤ maxLen →
      ∃ (k' : Nat) (n' : Int) (t' : ByteArray), t'.size ≤ maxLen ∧ ((∀ i (hi : i < 5), (splice cs p vs)[q + i]? = some ([Value.int .u8 k', .int .i64 n', .string t', .slice a1 m1 c1, .slice a2 m2 c2][i]'hi)) ∨ (∀ i (hi : i < 5), (splice cs p vs)[q + i]? = some ([Value.int .u8 k', .int .i64 n', .string t', .slice none 0 0, .slice none 0 0][i]'hi)))) : Soft W W' := by
  refine ⟨k.size, fun b hb => ?_, fun b q s hc hsz => ?_, fun b q kk n t a1 m1 c1 a2 m2 c2 hc ht => ?_⟩
  · by_cases hg : b = g
    · subst hg; exact ⟨_, _, ho'⟩
    · rw [k.block b (cln_lt hb) hg]; exact hb
  · by_cases hg : b = g
    · subst hg
      rw [ho.cell] at hc
      rw [ho'.cell, splice_get hf]
      split
      · rename_i hq
        exact hs q s hq.1 hq.2 hc
      · exact ⟨s, hc, hsz⟩
    · exact ⟨s, keep_cell k hg hc, hsz⟩
  · by_cases hg : b = g
    · subst hg
      obtain ⟨k', n', t', q1, q2⟩ := he q kk n t a1 m1 c1 a2 m2 c2 (fun i hi => by rw [← ho.cell]; exact hc i hi) ht
      refine ⟨k', n', t', q1, q2.imp (fun h i hi => ?_) (fun h i hi => ?_)⟩
      · rw [ho'.cell]; exact h i hi
      · rw [ho'.cell]; exact h i hi
    · exact ⟨kk, n, t, ht, .inl fun i hi => keep_cell k hg (hc i hi)⟩
theorem soft_str {g p : Nat} {cs : List Value} {s0 s1 : ByteArray} {T : TypeId} (ho : Own W g cs T) (k : Keeps (fun x => x ≠ g) W W') (hp : cs[p]? = some (.string s0)) (hs : s1.size ≤ maxLen) (ho' : Own W' g (splice cs p [.string s1]) T) : Soft W W' := by
  have hpl := (List.getElem?_eq_some_iff.1 hp).1
  have hf : p + [Value.string s1].length ≤ cs.length := by simp; omega
  refine soft_of ho k hf ho' (fun q s h1 h2 _ => ?_) (fun q kk n t a1 m1 c1 a2 m2 c2 hc ht => ?_)
  · have : q - p = 0 := by simp at h2; omega
    rw [this]; exact ⟨s1, rfl, hs⟩
  · have hg : ∀ i, (splice cs p [.string s1])[q + i]? = if q + i = p then some (.string s1) else cs[q + i]? := fun i => by
      rw [splice_get hf]
      by_cases h : q + i = p
      · rw [if_pos h, if_pos (by simp; omega), h, Nat.sub_self]; rfl
      · rw [if_neg h, if_neg (by simp; omega)]
    have ne : ∀ i (hi : i < 5), i ≠ 2 → q + i ≠ p := fun i hi h2 e => by
      have := hc i hi
      rw [e, hp] at this
      have h5 : i = 0 ∨ i = 1 ∨ i = 3 ∨ i = 4 := by omega
      rcases h5 with rfl | rfl | rfl | rfl <;> simp at this
    refine ⟨kk, n, if q + 2 = p then s1 else t, by split <;> assumption, .inl ?_⟩
    intro i hi
    rw [hg]
    have h5 : i = 0 ∨ i = 1 ∨ i = 2 ∨ i = 3 ∨ i = 4 := by omega
    rcases h5 with rfl | rfl | rfl | rfl | rfl
    · rw [if_neg (ne 0 hi (by decide))]; exact hc 0 hi
    · rw [if_neg (ne 1 hi (by decide))]; exact hc 1 hi
    · by_cases h : q + 2 = p
      · simp [h]
      · simp only [if_neg h]; exact hc 2 hi
    · rw [if_neg (ne 3 hi (by decide))]; exact hc 3 hi
    · rw [if_neg (ne 4 hi (by decide))]; exact hc 4 hi
theorem soft_leaf {g p k0 k1 : Nat} {n0 n1 : Int} {t0 t1 : ByteArray} {cs : List Value} {b1 b2 : Option Addr} {l1 l2 d1 d2 : Nat} {T : TypeId} (ho : Own W g cs T) (k : Keeps (fun x => x ≠ g) W W')
    (hp : ∀ i (hi : i < 5), cs[p + i]? = some ([Value.int .u8 k0, .int .i64 n0, .string t0, .slice b1 l1 d1, .slice b2 l2 d2][i]'hi)) (hs : t1.size ≤ maxLen) (ho' : Own W' g (splice cs p [.int .u8 k1, .int .i64 n1, .string t1, .slice none 0 0, .slice none 0 0]) T) : Soft W W' := by
  have hpl := (List.getElem?_eq_some_iff.1 (hp 4 (by decide))).1
  have hf : p + [Value.int .u8 k1, .int .i64 n1, .string t1, .slice none 0 0, .slice none 0 0].length ≤ cs.length := by simp; omega
  have hl : [Value.int .u8 k1, .int .i64 n1, .string t1, .slice none 0 0, .slice none 0 0].length = 5 := rfl
  refine soft_of ho k hf ho' (fun q s h1 h2 hq => ?_) (fun q kk n t a1 m1 c1 a2 m2 c2 hc ht => ?_)
  · rw [hl] at h2
    obtain ⟨i, rfl⟩ : ∃ i, q = p + i := ⟨q - p, by omega⟩
    have hi : i < 5 := by omega
    have := hp i hi
    rw [hq] at this
    have h5 : i = 0 ∨ i = 1 ∨ i = 2 ∨ i = 3 ∨ i = 4 := by omega
    rcases h5 with rfl | rfl | rfl | rfl | rfl <;> simp at this
    exact ⟨t1, by simp, hs⟩
  · have hg : ∀ i, (splice cs p [.int .u8 k1, .int .i64 n1, .string t1, .slice none 0 0, .slice none 0 0])[q + i]? = if p ≤ q + i ∧ q + i < p + 5 then [Value.int .u8 k1, .int .i64 n1, .string t1, .slice none 0 0, .slice none 0 0][q + i - p]? else cs[q + i]? := fun i => by
      rw [splice_get hf, hl]
    by_cases hqp : q = p
    · subst hqp
      refine ⟨k1, n1, t1, hs, .inr fun i hi => ?_⟩
      rw [hg, if_pos (by omega), show q + i - q = i by omega]
      exact List.getElem?_eq_getElem (by simpa using hi)
    · have far : ∀ i, i < 5 → ¬ (p ≤ q + i ∧ q + i < p + 5) := fun i hi hh => by
        rcases Nat.lt_or_gt_of_ne hqp with h | h
        · -- p = q + j, 0 < j < 5
          have h1 := hp 0 (by decide)
          have h2 := hc (p - q) (by omega)
          rw [show q + (p - q) = p + 0 by omega, h1] at h2
          have h5 : p - q = 1 ∨ p - q = 2 ∨ p - q = 3 ∨ p - q = 4 := by omega
          rcases h5 with h5 | h5 | h5 | h5 <;> simp [h5] at h2
        · have h1 := hc 0 (by decide)
          have h2 := hp (q - p) (by omega)
          rw [show p + (q - p) = q + 0 by omega, h1] at h2
          have h5 : q - p = 1 ∨ q - p = 2 ∨ q - p = 3 ∨ q - p = 4 := by omega
          rcases h5 with h5 | h5 | h5 | h5 <;> simp [h5] at h2
      refine ⟨kk, n, t, ht, .inl fun i hi => ?_⟩
      rw [hg, if_neg (far i hi)]
      exact hc i hi
end
theorem cnts_at : ∀ (xs : List V) (i : Nat) (h : i < xs.length), V.cnts xs[i].xs < V.cnts xs
  | x :: xs, 0, _ => by obtain ⟨k, n, t, ns, ys⟩ := x; show V.cnts ys < V.cnts (V.mk k n t ns ys :: xs); simp only [V.cnts, V.cnt]; omega
  | x :: xs, i + 1, h => by
    have := cnts_at xs i (by simpa using h)
    simp only [List.getElem_cons_succ, V.cnts]; omega
theorem ent_at {W : World} {Z : Nat → Prop} {xs : List V} {va : Option Addr} {m c g0 o0 i : Nat} (h : Rd W (ZB Z) (valsD xs) (.slice va m c)) (hva : va = some ⟨g0, o0, none⟩) (hi : i < m) :
    ∃ (k : Nat) (n : Int) (t : ByteArray) (a1 : Option Addr) (c1 : Nat) (a2 : Option Addr) (c2 : Nat) (ns : List ByteArray) (ys : List V), CellsAt W g0 (o0 + i * 5) [.int .u8 k, .int .i64 n, .string t, .slice a1 ns.length c1, .slice a2 ys.length c2] ∧ t.size ≤ maxLen ∧
      Rd W (ZB Z) (strsD ns) (.slice a1 ns.length c1) ∧ Rd W (ZB Z) (valsD ys) (.slice a2 ys.length c2) ∧ V.cnts ys < V.cnts xs ∧ Z g0 ∧ Cln W.heap[g0]? := by
  rw [valsD, rd_lst] at h
  simp only [RdC] at h
  obtain ⟨a, cap, q1, q2, q3, q4⟩ := h
  simp only [List.cons.injEq, Value.slice.injEq, and_true, List.length_map] at q1
  obtain ⟨e1, e2, e3⟩ := q1
  subst e1
  rcases q4 with q4 | ⟨b, o, ha, hb, hlt, hl⟩
  · have : xs = [] := by simpa using q4
    subst this
    simp at e2; omega
  · rw [hva] at ha
    injection ha with ha
    injection ha with h1 h2 _
    subst h1; subst h2
    have hix : i < xs.length := by omega
    obtain ⟨cs, h5, hc, hr⟩ := hl.get i (by simpa using hix)
    simp only [List.getElem_map] at hr
    obtain ⟨a1, c1, a2, c2, rfl, ht, r1, r2⟩ := rdcV_out hr
    exact ⟨_, _, _, a1, c1, a2, c2, _, _, hc, ht, by rw [strsD, rd_lst]; exact r1, by rw [valsD, rd_lst]; exact r2, cnts_at xs i hix, hb.1, hb.2⟩
theorem row_some {W : World} {S : BSet} {xs : List V} {va : Option Addr} {m c : Nat} (h : Rd W S (valsD xs) (.slice va m c)) (hi : 0 < m) : ∃ g0 o0, va = some ⟨g0, o0, none⟩ := by
  rw [valsD, rd_lst] at h
  simp only [RdC] at h
  obtain ⟨a, cap, q1, q2, q3, q4⟩ := h
  simp only [List.cons.injEq, Value.slice.injEq, and_true, List.length_map] at q1
  obtain ⟨e1, e2, e3⟩ := q1
  subst e1
  rcases q4 with q4 | ⟨b, o, ha, hb, hlt, hl⟩
  · have : xs = [] := by simpa using q4
    subst this
    simp at e2; omega
  · exact ⟨b, o, ha⟩
theorem str_at {W : World} {Z : Nat → Prop} {ns : List ByteArray} {va : Option Addr} {m c i : Nat} (h : Rd W (ZB Z) (strsD ns) (.slice va m c)) (hi : i < m) : ∃ g o s, va = some ⟨g, o, none⟩ ∧ W.cell? ⟨g, o + i, none⟩ = some (.string s) ∧ s.size ≤ maxLen ∧ Z g ∧ Cln W.heap[g]? := by
  rw [strsD, rd_lst] at h
  simp only [RdC] at h
  obtain ⟨a, cap, q1, q2, q3, q4⟩ := h
  simp only [List.cons.injEq, Value.slice.injEq, and_true, List.length_map] at q1
  obtain ⟨e1, e2, e3⟩ := q1
  subst e1
  rcases q4 with q4 | ⟨b, o, ha, hb, hlt, hl⟩
  · have : ns = [] := by simpa using q4
    subst this
    simp at e2; omega
  · have hix : i < ns.length := by omega
    obtain ⟨cs, h5, hc, hr⟩ := hl.get i (by simpa using hix)
    simp only [List.getElem_map, RdC] at hr
    obtain ⟨rfl, hs⟩ := hr
    have := hc 0 (by simp)
    exact ⟨b, o, _, ha, by simpa using this, hs, hb.1, hb.2⟩
section
variable {P : Program} {ops : Array Oper} {S : Nat → Prop} {w0 : World} {a0 : Act} {Γ : Ctx}
variable {d : Option Tmp} {ty : TypeId} {pos : String} {af : Array Edge} {gd : Option (Nat × Bool)}
theorem sp_loadCell {x : Operand} {T : TypeId} {g0 q : Nat} {u : Value} (hx : Has All w0 a0 Γ x (Is (.pointer (some ⟨g0, q, none⟩)))) (hT : aggB P T = some false) (hz : szOf P T = some 1) (hc : w0.cell? ⟨g0, q, none⟩ = some u) :
    Spec P ops All w0 a0 Γ ⟨d, .load T x, ty, pos, af, gd⟩ (Is u) := fun a g W hk hg he => by
  have e1 := hx.of_env hk hg he (by simp [Op.operands])
  have hc2 : CellsAt W g0 q [u] := fun j hj => by
    have hj0 : j = 0 := by simp at hj; omega
    subst hj0
    exact (World.cell?_of_block (w := w0) (a := ⟨g0, q + 0, none⟩) (hk.block g0 (cell_lt hc) trivial)).trans hc
  have hr := run_loadVar (P := P) hc2 hT hz rfl (fun _ => rfl)
  unfold OpRuns
  have : (execOp a.eval ⟨d, .load T x, ty, pos, af, gd⟩).run P W = .ok (.value u) W := by
    simp only [execOp, show a.eval x = _ from e1, Instr.loadAt, Instr.sureAddr, Sem.run_bind, Sem.run_pure, Result.andThen_ok, hr]
    rfl
  rw [this]
  exact ⟨.refl _ _, rfl⟩
theorem sp_lenSl {x : Operand} {T E : TypeId} {va : Option Addr} {n c : Nat} (hT : P.underlying T = some (.slice E)) (hx : Has S w0 a0 Γ x (Is (.slice va n c))) :
    Spec P ops S w0 a0 Γ ⟨d, .call ⟨.builtin .len, #[x], #[T]⟩, ty, pos, af, gd⟩ (Is (.int .i64 n)) := sp_val fun a g W hk hg he => by
  have e1 : a.eval x = .slice va n c := hx.of_env hk hg he (by simp [Op.operands, Call.operands])
  simp [execOp, resolve, invoke, builtin, Builtin.len_, e1, run_und hT, goInt]
end
section
variable {P : Program} {ops : Array Oper} {Q : Exit → Act → World → Prop} {r : List Oper} {a : Act} {W : World} {T : TypeId} {x y : Operand} {ty : TypeId} {pos : String} {af : Array Edge} {Z : Nat → Prop}
theorem ext_cell {W' : World} {b q : Nat} {v : Value} (k : Ext W W') (h : W.cell? ⟨b, q, none⟩ = some v) : W'.cell? ⟨b, q, none⟩ = some v :=
  (World.cell?_of_block (w := W) (a := ⟨b, q, none⟩) (k.block b (cell_lt h) trivial)).trans h
theorem tail_storeSt {g o p i m c : Nat} {va : Option Addr} {ns : List ByteArray} {s : ByteArray} (hx : a.eval x = .pointer (some ⟨g, p, none⟩)) (hy : a.eval y = .string s) (hz : szOf P T = some 1) (hs : s.size ≤ maxLen)
    (h0 : Rd W (ZB Z) (strsD ns) (.slice va m c)) (hva : va = some ⟨g, o, none⟩) (hi : i < m) (hp : p = o + i) (h : ∀ W', Mut Z W W' → (∀ b q a1 m1 c1, W.cell? ⟨b, q, none⟩ = some (.slice a1 m1 c1) → W'.cell? ⟨b, q, none⟩ = some (.slice a1 m1 c1)) → runTail P ops Q r a W') :
    runTail P ops Q (⟨none, .store T x y, ty, pos, af, none⟩ :: r) a W := by
  obtain ⟨g', o', s0, e1, e2, e3, e4, c0, T0, hcl⟩ := str_at h0 hi
  rw [hva] at e1
  injection e1 with e1
  injection e1 with h1 h2 _
  subst h1; subst h2; subst hp
  have ho : Own W g c0.toList T0 := by unfold Own; simpa using hcl
  rw [ho.cell] at e2
  have hlt := (List.getElem?_eq_some_iff.1 e2).1
  refine tail_store hx hy hz rfl ho (by omega) (by intro q hq; simp [Value.cells] at hq; subst hq; rfl) fun W' hk ho' => h W' (Mut.of_soft (hk.mono fun k hn e => hn (e ▸ e4)) (soft_str ho hk e2 hs ho')) fun b q a1 m1 c1 hc => ?_
  by_cases hg : b = g
  · subst hg
    rw [ho.cell] at hc
    have ho2 : Own W' b (splice c0.toList (o + i) [.string s]) T0 := ho'
    rw [ho2.cell, splice_get (by rw [List.length_singleton]; exact hlt)]
    split
    · rename_i hq
      have : q = o + i := by simp at hq; omega
      subst this
      rw [e2] at hc; simp at hc
    · exact hc
  · exact keep_cell hk hg hc
theorem tail_storeLf {g0 o0 p i m c : Nat} {va : Option Addr} {xs : List V} {k1 : Nat} {n1 : Int} {s : ByteArray} (hx : a.eval x = .pointer (some ⟨g0, p, none⟩)) (hy : a.eval y = .agg #[.int .u8 k1, .int .i64 n1, .string s, .slice none 0 0, .slice none 0 0]) (hz : szOf P T = some 5) (hs : s.size ≤ maxLen)
    (h0 : Rd W (ZB Z) (valsD xs) (.slice va m c)) (hva : va = some ⟨g0, o0, none⟩) (hi : i < m) (hp : p = o0 + i * 5) (h : ∀ W', Mut Z W W' → runTail P ops Q r a W') :
    runTail P ops Q (⟨none, .store T x y, ty, pos, af, none⟩ :: r) a W := by
  obtain ⟨k, n, t, a1, c1, a2, c2, ns, ys, hc, ht, -, -, -, hZ, c0, T0, hcl⟩ := ent_at h0 hva hi
  subst hp
  have ho : Own W g0 c0.toList T0 := by unfold Own; simpa using hcl
  have hc2 : ∀ j (hj : j < 5), c0.toList[o0 + i * 5 + j]? = some ([Value.int .u8 k, .int .i64 n, .string t, .slice a1 ns.length c1, .slice a2 ys.length c2][j]'hj) := fun j hj => by rw [← ho.cell]; exact hc j hj
  have hlt := (List.getElem?_eq_some_iff.1 (hc2 4 (by decide))).1
  exact tail_store hx hy hz rfl ho (by omega) (by intro q hq; simp [Value.cells] at hq; rcases hq with rfl | rfl | rfl | rfl | rfl <;> rfl) fun W' hk ho' => h W' (Mut.of_soft (hk.mono fun k hn e => hn (e ▸ hZ)) (soft_leaf ho hk hc2 hs ho'))
end
end Go.Eng
namespace Go.Proofs.Ytnobijngkpflcaa
open Go.Eng
set_option maxRecDepth 100000 in
theorem spoilD_ok : ∀ (N : Nat) (xs : List V), V.cnts xs < N → ∀ (Z : Nat → Prop) (m : Nat) (va : Option Addr) (vc : Nat) (w : World), m ≤ maxLen → Rd w (ZB Z) (valsD xs) (.slice va m vc) → Calls Try.prog 88 #[.slice va m vc] w (RetM w Z) := by
 intro N
 induction N with
 | zero => intro xs hx; omega
 | succ N ih =>
 intro xs hx Z m va vc w hm D_v
 simp only [maxLen] at hm
 refine enter Try.func88 rfl Try.ntmps88 (lbr rfl) fun a0 y0 zz0 harg => ?_
 have e0 : sl a0 0 = (.slice va m vc) := harg 0 (lbr rfl)
 have kw : Mut Z w w := .of_ext (.refl _ _)
 clear harg
 refine zq fun K1 hK1 => ?_
 refine rg mixed y0 zz0 ?_
 refine .ac ?_
 refine .dn fun a2 g W2 y2 zz2 hk hg hV hR hP => ?_
 obtain ⟨e2, -⟩ := hV
 replace e0 := ft hR e0
 replace e2 := e2.q
 replace kw := kw.ext hk
 clear hR hk hg hP
 refine zn (hK1 _ _ ?_)
 refine wp_block ?_
 refine wp_for (m) (fun k a W => a.tmps.size = 37 ∧ a.defers = [] ∧ Mut Z w W ∧ sl a 0 = (.slice va m vc) ∧ sl a 2 = (.int .i64 ((k : Nat)))) ⟨y2, zz2, kw, e0, (e2.trans (congrArg (Value.int .i64) (rfl)))⟩ ?_
 clear kw e0 e2
 rintro k a3 W3 hkk ⟨y3, zz3, kw, e0, e2⟩
 refine zq fun K4 hK4 => ?_
 refine zq fun K5 hK5 => ?_
 refine rg mixed y3 zz3 ?_
 refine .mb rfl e2 ?_
 refine .mb rfl e0 ?_
 refine .i (sp_lenV Try.underlying31 (hlc rfl)) ?_
 refine .i (sp_lss (hlc rfl) (hlc rfl)) ?_
 refine .dn fun a6 g W6 y6 zz6 hk hg hV hR hP => ?_
 obtain ⟨e7, -, -, -, -⟩ := hV
 replace e0 := ft hR e0
 replace e2 := ft hR e2
 replace e7 := e7.q
 replace kw := kw.ext hk
 clear hR hk hg hP
 refine zn (hK5 _ _ ?_)
 refine zc e7 (fun hc => ?_) (fun hc => ?_)
 ·
  have hlt : k < m := by simpa using hc
  obtain ⟨g0, o0, hva⟩ := row_some D_v (Nat.lt_of_le_of_lt (Nat.zero_le _) hlt)
  obtain ⟨xs1, -, c_1, D_1⟩ := kw.vals _ _ D_v
  obtain ⟨k1, n1, t1, p1, q1, p2, q2, ns1, ys1, ce1, ht1, D_n1, D_y1, cy1, hZ1, hC1⟩ := ent_at D_1 hva hlt
  refine wp_skip (hK4 _ _ ?_)
  refine zq fun K7 hK7 => ?_
  refine wp_block ?_
  refine zq fun K8 hK8 => ?_
  refine rg mixed y6 zz6 ?_
  refine .mb rfl e0 ?_
  refine .mb rfl e2 ?_
  refine .i (v := (.pointer (some ⟨g0, o0 + k * 5, none⟩))) (sp_indexRowO (i := k) (hlc rfl) (hlc rfl) Try.underlying31 sz33 hva rfl hlt) ?_
  refine .i (fo (o0 + k * 5 + 4) (hlc rfl) Try.underlying33 rfl sz31 rfl) ?_
  refine .i (sp_loadCell (hlc rfl) agg31 sz31 (ce1 4 (by simp))) ?_
  refine .dn fun a9 g W9 y9 zz9 hk hg hV hR hP => ?_
  show runTail _ _ _ _ _ _
  obtain ⟨e14, -, -, -, -, -⟩ := hV
  replace e0 := ft hR e0
  replace e2 := ft hR e2
  have e14 : sl a9 14 = .slice p2 ys1.length q2 := e14
  replace kw := kw.ext hk
  replace D_y1 := D_y1.ext hk
  clear hR hk hg hP D_n1 ce1 D_1
  have hly : ys1.length ≤ maxLen := rd_len D_y1
  refine tail_reg 1 (fun k => ¬ Z k) (Ψ := fun W => Mut Z w W ∧ Rd W (ZB Z) (valsD ys1) (.slice p2 ys1.length q2)) y9 zz9 (fun W W' k h => ⟨h.1.ext k, h.2.ext k⟩) ⟨kw, D_y1⟩ rfl ?_
  refine Chain.callL1 (φ1 := Is (.slice p2 ys1.length q2)) (φ := Any) (Ψ' := fun W => Mut Z w W) ent88 (hbs rfl e14) st_any st_mut (fun g u1 W hk hg h1 hpsi => by have h1 : u1 = _ := h1; subst h1; exact (ih ys1 (by omega) Z _ _ _ W hly hpsi.2).mono fun e W' ⟨v, h2, h3⟩ => ⟨v, h2, h3.keeps, trivial, hpsi.1.trans h3⟩) ?_
  refine .dn fun a10 g W10 y10 zz10 hk hg hV hR hP => ?_
  refine tail_nil ?_
  show runTail _ _ _ _ _ _
  replace e0 := ft hR e0
  replace e2 := ft hR e2
  replace kw := hP
  clear hR hk hg hV hP e14 D_y1 cy1 hC1
  obtain ⟨xs1, -, c_1, D_1⟩ := kw.vals _ _ D_v
  obtain ⟨k1, n1, t1, p1, q1, p2, q2, ns1, ys1, ce1, ht1, D_n1, D_y1, cy1, hZ1, hC1⟩ := ent_at D_1 hva hlt
  have hln : ns1.length ≤ maxLen := rd_lenS D_n1
  simp only [maxLen] at hln
  have cn1 := ce1 3 (by simp)
  clear D_1 ce1 D_y1 cy1 hC1
  refine zn (hK8 _ _ ?_)
  refine zq fun K10 hK10 => ?_
  refine zq fun K11 hK11 => ?_
  refine rg mixed y10 zz10 ?_
  refine .ac ?_
  refine .dn fun a12 g W12 y12 zz12 hk hg hV hR hP => ?_
  obtain ⟨e3, -⟩ := hV
  replace e0 := ft hR e0
  replace e2 := ft hR e2
  replace e3 := e3.q
  replace kw := kw.ext hk
  replace D_n1 := D_n1.ext hk
  replace cn1 := ext_cell hk cn1
  clear hR hk hg hP
  refine zn (hK11 _ _ ?_)
  refine wp_block ?_
  refine wp_for (ns1.length) (fun j a W => a.tmps.size = 37 ∧ a.defers = [] ∧ Mut Z w W ∧ sl a 0 = (.slice va m vc) ∧ sl a 2 = (.int .i64 ((k : Nat))) ∧ sl a 3 = (.int .i64 ((j : Nat))) ∧ W.cell? ⟨g0, o0 + k * 5 + 3, none⟩ = some (.slice p1 ns1.length q1) ∧ ∃ ns2 : List ByteArray, Rd W (ZB Z) (strsD ns2) (.slice p1 ns1.length q1)) ⟨y12, zz12, kw, e0, e2, (e3.trans (congrArg (Value.int .i64) (rfl))), cn1, ns1, D_n1⟩ ?_
  clear kw e0 e2 e3 cn1 D_n1
  rintro j a13 W13 hjj ⟨y13, zz13, kw, e0, e2, e3, cn1, ns2, D_n2⟩
  refine zq fun K13 hK13 => ?_
  refine zq fun K14 hK14 => ?_
  refine rg mixed y13 zz13 ?_
  refine .mb rfl e3 ?_
  refine .mb rfl e0 ?_
  refine .mb rfl e2 ?_
  refine .i (v := (.pointer (some ⟨g0, o0 + k * 5, none⟩))) (sp_indexRowO (i := k) (hlc rfl) (hlc rfl) Try.underlying31 sz33 hva rfl hlt) ?_
  refine .i (fo (o0 + k * 5 + 3) (hlc rfl) Try.underlying33 rfl sz23 rfl) ?_
  refine .i (sp_loadCell (hlc rfl) agg23 sz23 cn1) ?_
  refine .i (sp_lenSl Try.underlying23 (hlc rfl)) ?_
  refine .i (sp_lss (hlc rfl) (hlc rfl)) ?_
  refine .dn fun a15 g W15 y15 zz15 hk hg hV hR hP => ?_
  obtain ⟨e23, -, -, -, -, -, -, -, -⟩ := hV
  replace e0 := ft hR e0
  replace e2 := ft hR e2
  replace e3 := ft hR e3
  replace e23 := e23.q
  replace kw := kw.ext hk
  replace D_n2 := D_n2.ext hk
  replace cn1 := ext_cell hk cn1
  clear hR hk hg hP
  refine zn (hK14 _ _ ?_)
  refine zc e23 (fun hc => ?_) (fun hc => ?_)
  ·
   have hltj : j < ns1.length := by simpa using hc
   obtain ⟨gn, on, sn, hvn, -, -, -, -⟩ := str_at D_n2 hltj
   refine wp_skip (hK13 _ _ ?_)
   refine zq fun K16 hK16 => ?_
   refine wp_block ?_
   refine rg mixed y15 zz15 ?_
   refine .mb rfl e0 ?_
   refine .mb rfl e2 ?_
   refine .i (v := (.pointer (some ⟨g0, o0 + k * 5, none⟩))) (sp_indexRowO (i := k) (hlc rfl) (hlc rfl) Try.underlying31 sz33 hva rfl hlt) ?_
   refine .i (fo (o0 + k * 5 + 3) (hlc rfl) Try.underlying33 rfl sz23 rfl) ?_
   refine .i (sp_loadCell (hlc rfl) agg23 sz23 cn1) ?_
   refine .mb rfl e3 ?_
   refine .i (v := (.pointer (some ⟨gn, on + j * 1, none⟩))) (sp_indexRowO (i := j) (hlc rfl) (hlc rfl) Try.underlying23 sz9 hvn rfl hltj) ?_
   refine .dn fun a16 g W16 y16 zz16 hk hg hV hR hP => ?_
   obtain ⟨e32, -, -, -, -, -, -, -⟩ := hV
   replace e0 := ft hR e0
   replace e2 := ft hR e2
   replace e3 := ft hR e3
   have e32 : sl a16 32 = (.pointer (some ⟨gn, on + j * 1, none⟩)) := e32
   replace kw := kw.ext hk
   replace D_n2 := D_n2.ext hk
   replace cn1 := ext_cell hk cn1
   clear hR hk hg hP
   refine tail_storeSt e32 rfl sz9 (by decide) D_n2 hvn hltj (by rw [Nat.mul_one]) (fun W17 hs hcell => ?_)
   obtain ⟨ns3, -, D_n3⟩ := hs.strs _ _ D_n2
   replace kw := kw.trans hs
   replace cn1 := hcell _ _ _ _ _ cn1
   clear hs hcell D_n2
   refine zn (hK16 _ _ ?_)
   refine rg mixed y16 zz16 ?_
   refine .mb rfl e3 ?_
   refine .i (sp_add (hlc rfl) Has.cst (i64_in (by omega))) ?_
   refine .al rfl ?_
   refine .dn fun a18 g W18 y18 zz18 hk hg hV hR hP => ?_
   obtain ⟨e3, -, -, -⟩ := hV
   replace e0 := ft hR e0
   replace e2 := ft hR e2
   replace e3 := e3.q
   replace kw := kw.ext hk
   replace D_n3 := D_n3.ext hk
   replace cn1 := ext_cell hk cn1
   clear hR hk hg hP
   exact tail_nil ⟨hltj, y18, zz18, kw, e0, e2, (e3.trans (congrArg (Value.int .i64) (by simp))), cn1, ns3, D_n3⟩
  clear cn1 D_n2
  refine wp_exit (hK10 _ _ ?_)
  obtain ⟨xs3, -, c_3, D_3⟩ := kw.vals _ _ D_v
  refine rg mixed y15 zz15 ?_
  refine .mb rfl e0 ?_
  refine .mb rfl e2 ?_
  refine .i (v := (.agg #[(.int .u8 (99)), (.int .i64 (0)), (.string (⟨#[]⟩)), (.slice none 0 0), (.slice none 0 0)])) (sp_build (vs := [(0, (.int .u8 (99)))]) Try.underlying33 z33 (pl33 Try.underlying33) ⟨rfl, Has.cst, trivial⟩ rfl) ?_
  refine .i (v := (.pointer (some ⟨g0, o0 + k * 5, none⟩))) (sp_indexRowO (i := k) (hlc rfl) (hlc rfl) Try.underlying31 sz33 hva rfl hlt) ?_
  refine .dn fun a19 g W19 y19 zz19 hk hg hV hR hP => ?_
  obtain ⟨e36, e35, -, -, -⟩ := hV
  replace e0 := ft hR e0
  replace e2 := ft hR e2
  replace e35 := e35.q
  have e36 : sl a19 36 = (.pointer (some ⟨g0, o0 + k * 5, none⟩)) := e36
  replace kw := kw.ext hk
  replace D_3 := D_3.ext hk
  clear hR hk hg hP
  refine tail_storeLf (k1 := 99) e36 e35 sz33 (by decide) D_3 hva hlt rfl (fun W20 hs => ?_)
  replace kw := kw.trans hs
  clear hs D_3
  refine zn (hK7 _ _ ?_)
  refine rg mixed y19 zz19 ?_
  refine .mb rfl e2 ?_
  refine .i (sp_add (hlc rfl) Has.cst (i64_in (by omega))) ?_
  refine .al rfl ?_
  refine .dn fun a21 g W21 y21 zz21 hk hg hV hR hP => ?_
  obtain ⟨e2, -, -, -⟩ := hV
  replace e0 := ft hR e0
  replace e2 := e2.q
  replace kw := kw.ext hk
  clear hR hk hg hP
  exact tail_nil ⟨hlt, y21, zz21, kw, e0, (e2.trans (congrArg (Value.int .i64) (by simp)))⟩
 refine wp_exit ?_
 refine ret0 rfl zz6 ⟨_, rfl, kw⟩
end Go.Proofs.Ytnobijngkpflcaa
namespace Go.Eng
def NV (u : World) : Nat → Value → Prop
  | 0, _ => True
  | n + 1, v => ∀ a len cap, v = .slice (some a) len cap → ∀ i, i < len → (a.block < u.heap.size ∧ u.frozen? ⟨a.block, a.off + i * 5, none⟩ = false ∧ ∀ c, u.cell? ⟨a.block, a.off + i * 5 + 4, none⟩ = some c → NV u n c)
def AV (u : World) (v : Value) : Prop := ∀ n, NV u n v
def QV (u : World) (b o : Nat) : Prop := b < u.heap.size ∧ u.frozen? ⟨b, o, none⟩ = false ∧ ∀ c, u.cell? ⟨b, o + 4, none⟩ = some c → AV u c
theorem AV.idx {u : World} {a : Addr} {len cap i : Nat} (h : AV u (.slice (some a) len cap)) (hi : i < len) : QV u a.block (a.off + i * 5) :=
  ⟨(h 1 a len cap rfl i hi).1, (h 1 a len cap rfl i hi).2.1, fun c hc n => (h (n + 1) a len cap rfl i hi).2.2 c hc⟩
section
variable {P : Program} {ops : Array Oper} {S : Nat → Prop} {w0 : World} {a0 : Act} {Γ : Ctx}
variable {d : Option Tmp} {ty : TypeId} {pos : String} {af : Array Edge} {gd : Option (Nat × Bool)}
def Abv (W : World) (q : Value) : Prop := q = .pointer none ∨ ∃ b o c T f, q = .pointer (some ⟨b, o, none⟩) ∧ W.heap[b]? = some (.cells c T f)
theorem Abv.ext {W W' : World} {q : Value} (h : Abv W q) (k : Ext W W') : Abv W' q := by
  rcases h with h | ⟨b, o, c, T, f, h1, h2⟩
  · exact .inl h
  · exact .inr ⟨b, o, c, T, f, h1, by rw [k.block b (Array.getElem?_eq_some_iff.1 h2).1 trivial]; exact h2⟩
end
end Go.Eng
namespace Go.Eng
structure Cp (x y : V) : Prop where
  k : y.k = x.k
  n : y.n = x.n
  t : y.t = x.t
  ns : y.ns = x.ns
  len : y.xs.length = x.xs.length
  at' : ∀ i (h : i < x.xs.length) (h2 : i < y.xs.length), y.xs[i] = x.xs[i] ∨ y.xs[i] = V.zero
theorem Cp.refl (x : V) : Cp x x := ⟨rfl, rfl, rfl, rfl, rfl, fun _ _ _ => .inl rfl⟩
theorem cp_wts : ∀ (a b : List V), b.length = a.length → (∀ i (h : i < a.length) (h2 : i < b.length), b[i] = a[i] ∨ b[i] = V.zero) → V.wts b ≤ V.wts a
  | [], [], _, _ => Nat.le_refl _
  | [], _ :: _, h, _ => by simp at h
  | _ :: _, [], h, _ => by simp at h
  | x :: a, y :: b, h, hi => by
    have h1 := cp_wts a b (by simpa using h) fun i h1 h2 => hi (i + 1) (by simpa using h1) (by simpa using h2)
    have h2 : y.wt ≤ x.wt := by
      rcases hi 0 (by simp) (by simp) with h3 | h3
      · have h3 : y = x := h3
        rw [h3]; exact Nat.le_refl _
      · have h3 : y = V.zero := h3
        rw [h3]; exact wt_pos x
    simp only [V.wts]; omega
theorem Cp.wt {x y : V} (h : Cp x y) : y.wt ≤ x.wt := by
  have h1 := cp_wts x.xs y.xs h.len h.at'
  have h2 := wt_eq x
  have h3 := wt_eq y
  rw [h.t, h.ns] at h3
  omega
end Go.Eng
namespace Go.Eng
structure Vo where
  r : Rc
  repo : ByteArray
def Vo.d (a : Vo) : D := .agg [a.r.d, .str a.repo]
structure To where
  repo : ByteArray
  r : Rc
def To.d (a : To) : D := .agg [.str a.repo, a.r.d]
def Rc.zero : Rc := ⟨0, [], V.zero⟩
end Go.Eng
namespace Go.Eng
theorem rd_move2 {W W' : World} {S S' : BSet} {d : D} {v : Value} (hs : W.heap.size ≤ W'.heap.size) (h : ∀ b, S b W.heap[b]? → b < W.heap.size → W'.heap[b]? = W.heap[b]? ∧ S' b W'.heap[b]?) (hd : Rd W S d v) : Rd W' S' d v :=
  let ⟨cs, h1, h2⟩ := hd; ⟨cs, rdc_move hs h _ _ h1, h2⟩
section
variable {w W W' : World} {S : BSet} {M M' L : List Nat} {d : D} {v : Value} {S0 : Nat → Prop}
theorem sf_appL (h : Rd W (SF w M) d v) (k : Keeps (fun x => x ∉ L) W W') (hM : ∀ b ∈ L, b ∈ M) (hr : ∀ b ∈ M', b ∈ M ∨ W.heap.size ≤ b) : Rd W' (SF w M') d v :=
  rd_move2 k.size (fun b hb hlt => by
    have e := k.block b hlt (fun e => hb.2.2 (hM b e))
    exact ⟨e, by rw [e]; exact ⟨hb.1, hb.2.1, fun hm => (hr b hm).elim hb.2.2 (by omega)⟩⟩) h
theorem sa_appL (h : Rd W (SA w S M) d v) (k : Keeps (fun x => x ∉ L) W W') (hM : ∀ b ∈ L, b ∈ M) (hr : ∀ b ∈ M', b ∈ M ∨ W.heap.size ≤ b) : Rd W' (SA w S M') d v :=
  rd_move2 k.size (fun b hb hlt => by
    have e := k.block b hlt (fun e => hb.2.2 (hM b e))
    exact ⟨e, by rw [e]; exact ⟨hb.1, hb.2.1, fun hm => (hr b hm).elim hb.2.2 (by omega)⟩⟩) h
end
section
variable {P : Program} {ops : Array Oper} {S : Nat → Prop} {w0 : World} {a0 : Act} {Γ : Ctx}
variable {d : Option Tmp} {ty : TypeId} {pos : String} {af : Array Edge} {gd : Option (Nat × Bool)}
theorem sp_andF {c x : Operand} (hc : Has S w0 a0 Γ c (Is (.bool false))) : Spec P ops S w0 a0 Γ ⟨d, .pick c x (.const (.bool false)), ty, pos, af, gd⟩ (Is (.bool false)) := sp_val fun a g W hk hg he => by
  have e1 : a.eval c = .bool false := hc.of_env hk hg he (by simp [Op.operands])
  have e3 : a.eval (.const (.bool false)) = .bool false := rfl
  simp [execOp, e1, asBool, e3]
variable {fn : Func} {R : Ending → World → Prop} {a : Act} {W : World}
end
end Go.Eng
namespace Go.Eng
section
variable {w wc W W' W1 : World} {S G : BSet} {M M' Mc Mc' L news : List Nat} {d : D} {v : Value} {S0 : Nat → Prop} {lo sz n : Nat} {e T : TypeId} {ds : List D} {hd hd' : Option Nat}
theorem row_inA (hG : ∀ b o, G b o → Cln o) (A : Arr W lo e sz (SA wc G Mc) ds v hd) (hM : ∀ b ∈ M, b ∈ Mc) : Arr W lo e sz (SA W (SA wc G Mc) M) ds v hd := A.mono fun b _ hb _ => ⟨fun _ => hb, fun _ => sa_cln hG _ _ hb, fun hm => hb.2.2 (hM b hm)⟩
theorem row_outA (A : Arr W' lo e sz (SA W1 (SA wc G Mc) M') ds v hd') (hs : wc.heap.size ≤ W1.heap.size) (hlt : ∀ b ∈ Mc, b < W1.heap.size) (hr : ∀ b ∈ Mc', b ∈ Mc ∨ b ∈ M') : Arr W' lo e sz (SA wc G Mc') ds v hd' := A.mono fun b o hb _ => by
  rcases Nat.lt_or_ge b W1.heap.size with hl | hl
  · have h := hb.1 hl
    exact ⟨h.1, h.2.1, fun hm => (hr b hm).elim h.2.2 hb.2.2⟩
  · exact ⟨fun h1 => by omega, fun _ => hb.2.1 hl, fun hm => (hr b hm).elim (fun h1 => by have := hlt b h1; omega) hb.2.2⟩
theorem nin_boxA {b b2 : Nat} (h1 : b ≠ b2) (h2 : b ∉ blks hd) : b ∉ b2 :: (blks hd ++ []) := fun h => (List.mem_cons.1 h).elim h1 (fun h => h2 (by simpa using h))
theorem stE_boxR {bb : Nat} {cs : List Value} {X : BSet} : StableE fun W => Own W bb cs T ∧ Arr W lo e sz X ds v hd := fun _ _ k h => ⟨h.1.ext k, h.2.ext k⟩
theorem keeps_appN (h : Keeps S0 w W) (k : Keeps (fun x => x ∉ L) W W') (hb : ∀ b ∈ L, ¬ S0 b) : Keeps S0 w W' := keeps_L h k fun b hm => .inr (hb b hm)
end
def NBox (w0 W : World) (cs : List Value) (T : TypeId) (u : Value) : Prop := ∃ bo, u = .pointer (some ⟨bo, 0, none⟩) ∧ w0.heap.size ≤ bo ∧ Own W bo cs T
def IsNB (w0 : World) (cs : List Value) (T : TypeId) : Fact := fun _ u W => NBox w0 W cs T u
theorem st_nb {w0 : World} {cs : List Value} {T : TypeId} : Stable All (IsNB w0 cs T) := ⟨fun _ _ _ _ k ⟨bo, h1, h2, h3⟩ => ⟨bo, h1, h2, h3.ext k⟩, fun _ _ _ _ _ _ h => h⟩
theorem nb_up {w0 W W' : World} {cs : List Value} {T : TypeId} {u : Value} (k : Keeps All w0 W) (h : NBox W W' cs T u) : NBox w0 W' cs T u := by
  obtain ⟨bo, h1, h2, h3⟩ := h
  exact ⟨bo, h1, Nat.le_trans k.size h2, h3⟩
end Go.Eng
namespace Go.Eng
def shiftE (m : Nat) (es : Array Edge) : Array Edge := (es.toList.filterMap fun e => if e.on < m then none else some { e with on := e.on - m }).toArray
def shiftO (m : Nat) (o : Oper) : Oper := { o with after := shiftE m o.after, guard := o.guard.map fun q => (q.1 - m, q.2) }
def shiftR (m : Nat) (ops : Array Oper) : Array Oper := ((ops.toList.drop m).map (shiftO m)).toArray
theorem shiftR_get {m : Nat} {ops : Array Oper} (i : Nat) : (shiftR m ops)[i]? = (ops[m + i]?).map (shiftO m) := by
  simp [shiftR, List.getElem?_drop]
theorem shiftR_size {m : Nat} {ops : Array Oper} : (shiftR m ops).size = ops.size - m := by simp [shiftR]
theorem shiftE_mem {m : Nat} {es : Array Edge} {e : Edge} : e ∈ shiftE m es ↔ ∃ e' ∈ es, m ≤ e'.on ∧ e = { e' with on := e'.on - m } := by
  simp only [shiftE, List.mem_toArray, List.mem_filterMap]
  constructor
  · rintro ⟨e', h1, h2⟩
    split at h2
    · cases h2
    · injection h2 with h2
      exact ⟨e', by simpa using h1, by omega, h2.symm⟩
  · rintro ⟨e', h1, h2, rfl⟩
    exact ⟨e', by simpa using h1, by rw [if_neg (by omega)]⟩
theorem oper_wp_shift {P : Program} {m : Nat} {o : Oper} {a : Act} {w : World} {K : Act → World → Prop} {Q : Exit → Act → World → Prop} : (shiftO m o).wp P a w K Q = o.wp P a w K Q := by cases o; rfl
theorem oper_asks_shift {P : Program} {m : Nat} {o : Oper} {a : Act} {w : World} : (shiftO m o).asks P a w = o.asks P a w := by cases o; rfl
section
variable {P : Program} {ops : Array Oper} {m : Nat} {Q : Exit → Act → World → Prop}
theorem wanted_shift {o : Oper} {a : Act} (hg : ∀ j want, o.guard = some (j, want) → m ≤ j) : Region.wanted (shiftO m o) (yielded (shiftR m ops) a.tmps) = Region.wanted o (yielded ops a.tmps) := by
  unfold Region.wanted shiftO
  cases hgd : o.guard with
  | none => simp
  | some q =>
    obtain ⟨j, want⟩ := q
    have hj := hg j want hgd
    simp only [Option.map_some]
    unfold yielded
    rw [shiftR_get, show m + (j - m) = j by omega]
    cases ops[j]? <;> rfl
theorem wpOp_shift {i : Nat} {K K' : Act → World → Prop} {a : Act} {w : World} (hg : ∀ o, ops[m + i]? = some o → ∀ j want, o.guard = some (j, want) → m ≤ j) (hK : ∀ a w, K a w → K' a w) (h : wpOp P (shiftR m ops) Q i K a w) : wpOp P ops Q (m + i) K' a w := by
  unfold wpOp at h ⊢
  rw [shiftR_get] at h
  cases ho : ops[m + i]? with
  | none => rw [ho] at h; exact hK _ _ h
  | some o =>
    rw [ho] at h
    simp only [Option.map_some] at h ⊢
    rw [wanted_shift (hg o ho), oper_wp_shift, oper_asks_shift] at h
    split
    · rename_i hw
      rw [if_pos hw] at h
      exact h.imp (Oper.wp_mono hK) id
    · rename_i hw
      rw [if_neg hw] at h
      exact hK _ _ h
theorem wpAny_shift (hm : m ≤ ops.size) (hg : ∀ i o, m ≤ i → ops[i]? = some o → ∀ j want, o.guard = some (j, want) → m ≤ j) : ∀ (fuel : Nat) (l' l : Array Bool) (a : Act) (W : World), l.size = ops.size → l'.size = (shiftR m ops).size →
    (∀ i, i < m → l.getD i false = true) → (∀ i, l.getD (m + i) false = l'.getD i false) → wpAny P .any (shiftR m ops) Q fuel l' a W → wpAny P .any ops Q fuel l a W := by
  have hbd : ∀ {e : Edge} {n : Nat}, Region.binds .any { e with on := n } = Region.binds .any e := fun {e n} => by cases e; rfl
  have low : ∀ {l : Array Bool}, l.size = ops.size → (∀ i, i < m → l.getD i false = true) → ∀ i, i ∈ Region.ready .any ops l → m ≤ i := fun {l} hs hl i hi => by
    obtain ⟨h0, o, ho, _⟩ := mem_ready.1 hi
    have hlt : i < ops.size := (Array.getElem?_eq_some_iff.1 ho).1
    rcases Nat.lt_or_ge i m with h | h
    · have := hl i h
      have hi' : i < l.size := by omega
      simp only [Array.getD, hi', dif_pos] at h0 this
      rw [h0] at this; cases this
    · exact h
  have rdy : ∀ {l l' : Array Bool}, l.size = ops.size → l'.size = (shiftR m ops).size → (∀ i, i < m → l.getD i false = true) → (∀ i, l.getD (m + i) false = l'.getD i false) → ∀ i, m + i ∈ Region.ready .any ops l ↔ i ∈ Region.ready .any (shiftR m ops) l' := fun {l l'} hs hs' hl hr i => by
    rw [mem_ready, mem_ready, shiftR_get]
    have hsz : l'.size + m = l.size := by rw [hs', shiftR_size]; omega
    have e0 : l.getD (m + i) true = false ↔ l'.getD i true = false := by
      have := hr i
      by_cases h : i < l'.size
      · have h2 : m + i < l.size := by omega
        simp only [Array.getD, h, h2, dif_pos] at this ⊢
        rw [this]
      · have h2 : ¬ m + i < l.size := by omega
        simp only [Array.getD, h, h2, dif_neg, not_false_eq_true]
    rw [e0]
    constructor
    · rintro ⟨h1, o, ho, he⟩
      refine ⟨h1, shiftO m o, by rw [ho]; rfl, fun e hem hb => ?_⟩
      obtain ⟨e', h2, h3, rfl⟩ := shiftE_mem.1 hem
      have := he e' h2 (by rwa [hbd] at hb)
      rw [← hr]
      simp only
      rw [show m + (e'.on - m) = e'.on by omega]
      exact this
    · rintro ⟨h1, o', ho, he⟩
      cases hq : ops[m + i]? with
      | none => rw [hq] at ho; cases ho
      | some o =>
        rw [hq] at ho
        simp only [Option.map_some, Option.some.injEq] at ho
        subst ho
        refine ⟨h1, o, rfl, fun e hem hb => ?_⟩
        rcases Nat.lt_or_ge e.on m with h | h
        · exact hl _ h
        · have := he { e with on := e.on - m } (shiftE_mem.2 ⟨e, hem, h, rfl⟩) (by rw [hbd]; exact hb)
          rw [← hr] at this
          simp only at this
          rwa [show m + (e.on - m) = e.on by omega] at this
  intro fuel
  induction fuel with
  | zero =>
    intro l' l a W hs hs' hl hr h
    obtain ⟨h1, h2⟩ := h
    refine ⟨?_, h2⟩
    cases hq : Region.ready .any ops l with
    | nil => rfl
    | cons i rs =>
      have hi : i ∈ Region.ready .any ops l := by rw [hq]; exact List.mem_cons_self
      have hmi := low hs hl i hi
      have := (rdy hs hs' hl hr (i - m)).1 (by rwa [show m + (i - m) = i by omega])
      rw [h1] at this; cases this
  | succ fuel ih =>
    intro l' l a W hs hs' hl hr h
    obtain ⟨h1, h2⟩ := h
    refine ⟨fun he => h1 ?_, fun i hi => ?_⟩
    · cases hq : Region.ready .any (shiftR m ops) l' with
      | nil => rfl
      | cons i rs =>
        have hi : i ∈ Region.ready .any (shiftR m ops) l' := by rw [hq]; exact List.mem_cons_self
        have := (rdy hs hs' hl hr i).2 hi
        rw [he] at this; cases this
    · have hmi := low hs hl i hi
      obtain ⟨i', rfl⟩ : ∃ i', i = m + i' := ⟨i - m, by omega⟩
      have hi2 := (rdy hs hs' hl hr i').1 hi
      have hlt : i' < l'.size := by
        obtain ⟨_, o, ho, _⟩ := mem_ready.1 hi2
        have := (Array.getElem?_eq_some_iff.1 ho).1
        omega
      have hlt2 : m + i' < l.size := by rw [hs', shiftR_size] at hlt; omega
      refine wpOp_shift (fun o ho => hg _ o (by omega) ho) (fun a w hk => ih _ _ a w (by simpa using hs) (by simpa using hs') (fun j hj => ?_) (fun j => ?_) hk) (h2 i' hi2)
      · rw [getD_or hlt2]; exact .inl (hl j hj)
      · rw [Bool.eq_iff_iff, getD_or hlt2, getD_or hlt, hr j]
        constructor
        · rintro (h | h)
          · exact .inl h
          · exact .inr (by omega)
        · rintro (h | h)
          · exact .inl h
          · exact .inr (by omega)
end
section
variable {P : Program} {ops : Array Oper} {S : Nat → Prop} {w0 : World} {a0 : Act}
variable {m N : Nat} {φ : Nat → Fact} {Γ : Nat → Ctx} {Ψ : Nat → World → Prop} {mn bx lt : Nat → Bool} {need : Nat → Nat → Prop}
theorem count_set {listed : Array Bool} {i : Nat} (hi' : i < listed.size) (hn : listed.getD i false = false) : (listed.setIfInBounds i true).toList.countP (fun b => !b) + 1 = listed.toList.countP (fun b => !b) := by
  have hg : listed.toList[i]'(by simpa using hi') = false := by
    simp only [Array.getD, hi', dif_pos] at hn; simpa using hn
  have e1 : listed.toList = listed.toList.take i ++ false :: listed.toList.drop (i + 1) := by
    conv => lhs; rw [← List.take_append_drop i listed.toList, List.drop_eq_getElem_cons (by simpa using hi'), hg]
  have e2 : (listed.setIfInBounds i true).toList = listed.toList.take i ++ true :: listed.toList.drop (i + 1) := by
    rw [Array.toList_setIfInBounds, List.set_eq_take_append_cons_drop, if_pos (by simpa using hi')]
  rw [e2]
  conv => rhs; rw [e1]
  simp only [List.countP_append, List.countP_cons, Bool.not_false, Bool.not_true, if_true]
  simp
  omega
theorem count_low {listed : Array Bool} (hm : m ≤ listed.size) (hE : ∀ i, listed.getD i false = true ↔ i < m) : listed.toList.countP (fun b => !b) = listed.size - m := by
  have e : listed.toList = List.replicate m true ++ List.replicate (listed.size - m) false := by
    apply List.ext_getElem
    · simp; omega
    · intro i h1 h2
      have hi : i < listed.size := by simpa using h1
      have := hE i
      simp only [Array.getD, hi, dif_pos] at this
      rw [List.getElem_append]
      split
      · rename_i h
        simp at h
        rw [List.getElem_replicate]
        simpa using this.2 h
      · rename_i h
        simp at h
        rw [List.getElem_replicate]
        have h3 : ¬ listed[i] = true := fun h' => by have := this.1 h'; omega
        simpa using h3
  rw [e]
  simp [List.countP_append, List.countP_replicate]
theorem Book.anyTwo (bk : Book P ops S w0 a0 m φ Γ Ψ mn bx) (ft : Fits ops N m mn lt need) (hN : a0.tmps.size = N) {Q : Exit → Act → World → Prop}
    (hed : ∀ (i : Nat) (o : Oper), ops[i]? = some o → ∀ e ∈ o.after.toList, Region.binds .any e = true → e.on < i)
    (hnd : ∀ listed : Array Bool, (∀ (i : Nat) (o : Oper), listed.getD i false = true → ops[i]? = some o → ∀ e ∈ o.after.toList, Region.binds .any e = true → listed.getD e.on false = true) →
      ∀ (i : Nat) (o : Oper), ops[i]? = some o → (∀ e ∈ o.after.toList, Region.binds .any e = true → listed.getD e.on false = true) → ∀ j, need j i → listed.getD j false = true)
    (hsp : ∀ i j, m ≤ i → i < ops.size → j < m → need j i)
    (fin : ∀ a g W (listed : Array Bool), Stand ops S w0 a0 m φ Ψ mn need (fun i => i < m) a g W → listed.size = ops.size → (∀ i, listed.getD i false = true ↔ i < m) → wpAny P .any ops Q (ops.size - m) listed a W) {W : World} (hk : Keeps S w0 W) (hψ : Ψ 0 W) :
    wpAny P .any ops Q ops.size (Array.replicate ops.size false) a0 W := by
  have all_of : ∀ listed : Array Bool, listed.size = ops.size → Region.ready .any ops listed = [] → ∀ i, i < ops.size → listed.getD i false = true := by
    intro listed hs hr i
    induction i using Nat.strongRecOn with
    | _ i ih =>
      intro hi
      cases hl : listed.getD i false with
      | true => rfl
      | false =>
        have ho : ops[i]? = some ops[i] := by simp [hi]
        have : i ∈ Region.ready .any ops listed := by
          refine mem_ready.2 ⟨?_, _, ho, fun e he hb => ih e.on (hed i _ ho e (by simpa using he) hb) (Nat.lt_trans (hed i _ ho e (by simpa using he) hb) hi)⟩
          have h' : i < listed.size := by omega
          simp only [Array.getD, h', dif_pos] at hl ⊢
          exact hl
        rw [hr] at this; cases this
  have main : ∀ (fuel : Nat) (listed : Array Bool) (a : Act) (W : World), listed.size = ops.size →
      (∀ (i : Nat) (o : Oper), listed.getD i false = true → ops[i]? = some o → ∀ e ∈ o.after.toList, Region.binds .any e = true → listed.getD e.on false = true) →
      listed.toList.countP (fun b => !b) = fuel →
      (∃ g, Stand ops S w0 a0 m φ Ψ mn need (fun i => listed.getD i false = true) a g W) → wpAny P .any ops Q fuel listed a W := by
    intro fuel
    induction fuel with
    | zero =>
      intro listed a W hs hdc hc ⟨g, st⟩
      have hall : ∀ i, i < ops.size → listed.getD i false = true := by
        intro i hi
        rw [List.countP_eq_zero] at hc
        have hi' : i < listed.size := by omega
        have := hc listed[i] (by simp)
        simp only [Array.getD, hi', dif_pos]
        simpa using this
      have hE : ∀ i, listed.getD i false = true ↔ i < m := fun i => ⟨st.below i, fun h => hall i (Nat.lt_of_lt_of_le h bk.le)⟩
      have := fin a g W listed (st.congr hE) hs hE
      have e := count_low (by have := bk.le; omega) hE
      rw [hc, hs] at e
      rw [← e] at this
      exact this
    | succ fuel ih =>
      intro listed a W hs hdc hc ⟨g, st⟩
      by_cases hall : ∀ i, i < m → listed.getD i false = true
      · have hE : ∀ i, listed.getD i false = true ↔ i < m := fun i => ⟨st.below i, hall i⟩
        have := fin a g W listed (st.congr hE) hs hE
        have e := count_low (by have := bk.le; omega) hE
        rw [hc, hs] at e
        rw [← e] at this
        exact this
      · refine ⟨fun hr => absurd (fun i hi => all_of listed hs hr i (Nat.lt_of_lt_of_le hi bk.le)) hall, fun i hi => ?_⟩
        obtain ⟨h0, o, ho, hed'⟩ := mem_ready.1 hi
        have hlt' : i < ops.size := (Array.getElem?_eq_some_iff.1 ho).1
        have hi' : i < listed.size := by omega
        have hn : listed.getD i false = false := by simp only [Array.getD, hi', dif_pos] at h0 ⊢; exact h0
        have hedl : ∀ e ∈ o.after.toList, Region.binds .any e = true → listed.getD e.on false = true := fun e he hb => hed' e (by simpa using he) hb
        have hneed := hnd listed hdc i o ho hedl
        have hdc' : ∀ (j : Nat) (p : Oper), (listed.setIfInBounds i true).getD j false = true → ops[j]? = some p → ∀ e ∈ p.after.toList, Region.binds .any e = true → (listed.setIfInBounds i true).getD e.on false = true := by
          intro j p hj hp e he hb
          rw [getD_or hi'] at hj ⊢
          rcases hj with hj | rfl
          · exact .inl (hdc j p hj hp e he hb)
          · rw [ho] at hp; cases hp; exact .inl (hedl e he hb)
        have hc' := count_set hi' hn
        have him : i < m := by
          rcases Nat.lt_or_ge i m with h | h
          · exact h
          · exact absurd (fun j hj => hneed j (hsp i j h hlt' hj)) hall
        exact bk.step ft hN st him (by simp [hn]) hneed fun a' g' W' st' => ih _ a' W' (by simpa using hs) hdc' (by omega) ⟨g', st'.congr fun j => (getD_or hi').symm⟩
  refine main ops.size _ a0 W (by simp) ?_ (by simp [List.countP_replicate]) ⟨[], (stand_zero hk hψ).congr fun j => ?_⟩
  · intro i o h
    simp only [Array.getD] at h
    split at h <;> simp at h
  · constructor
    · exact fun h => h.elim
    · intro h
      simp only [Array.getD] at h
      split at h <;> simp at h
def Nrm (Q : Exit → Act → World → Prop) : Exit → Act → World → Prop := fun e a w => e = .normal ∧ Q .normal a w
def RegAny (P : Program) (ops : Array Oper) (Q : Exit → Act → World → Prop) (a : Act) (W : World) : Prop := wpAny P .any ops Q ops.size (Array.replicate ops.size false) a W
theorem runTail_nrm {Q : Exit → Act → World → Prop} : ∀ (l : List Oper) (a : Act) (W : World), runTail P ops Q l a W → runTail P ops (Nrm Q) l a W
  | [], a, W, h => ⟨rfl, h⟩
  | o :: l, a, W, h => ObRun.mono h fun v W' h' => runTail_nrm l _ _ h'
theorem reg_any {N : Nat} {Q : Exit → Act → World → Prop} {Ψ : World → Prop} (S : Nat → Prop) (hN : a0.tmps.size = N) (hd : a0.defers = []) (hsp : StableE Ψ) (hψ : Ψ w0)
    (h : Chain P ops S w0 a0 (Fin P ops Q S w0 a0 true N) false ops.toList [] Ψ []) : RegAny P ops (Nrm Q) a0 w0 := by
  obtain ⟨m, φ, Γ, Ψ', mn, bx, ms, bk, f, rfl, hms, h0⟩ := h.out (fun _ _ _ _ => True) (fun _ => []) (fun _ => Ψ) (fun _ => false) (fun _ => false)
    ⟨Nat.zero_le _, rfl, fun _ _ h => by simp at h, fun _ _ _ => rfl, fun _ h => by simp at h, fun _ _ => hsp, fun _ _ h => by simp at h, fun _ _ h => by simp at h, fun _ _ h => by simp at h⟩ rfl rfl rfl (fun _ h => by simp at h) (fun _ _ h => by simp at h)
  have ft := fits_congr (chk_fits f.ok) hms
  exact bk.anyOrder ft hN (fun i o ho e he hb => (chk_edges f.ok i o ho).2 e he hb) (fun listed hdc i o ho hed j hj => need_listed f.ok listed hdc i o ho hed j hj) (fun l hl => late_spec (by simpa using hl)) (fun _ _ _ h => by cases h.1) (fun a g W st => runTail_nrm _ _ _ (st.go bk hN hd f)) (.refl _ _) (by rw [h0]; exact hψ)
structure Fin2 (P : Program) (ops : Array Oper) (Q : Exit → Act → World → Prop) (S : Nat → Prop) (w0 : World) (a0 : Act) (N : Nat) (l : List Oper) (Γ : Ctx) (Ψ : World → Prop) (ms : List Bool) : Prop where
  ok : chkW (fun j => decide (ms.length ≤ j)) true (Region.before ops) N ops ms.reverse ms.length = true
  gd : ((List.range ops.size).all fun i => !decide (ms.length ≤ i) || match ops[i]? with | none => true | some p => match p.guard with | none => true | some q => decide (ms.length ≤ q.1)) = true
  go : ∀ a g W, a.tmps.size = N → a.defers = [] → Keeps S w0 W → GOk w0 W g → EnvAll a g W Γ → (∀ t, notIn Γ t = true → sl a t = sl a0 t) → Ψ W → RegAny P (shiftR ms.length ops) (Nrm Q) a W
theorem reg2_any {N : Nat} {Q : Exit → Act → World → Prop} {Ψ : World → Prop} (S : Nat → Prop) (hN : a0.tmps.size = N) (hd : a0.defers = []) (hsp : StableE Ψ) {W : World} (hk0 : Keeps S w0 W) (hψ : Ψ w0) (hψW : Ψ W)
    (h : Chain P ops S w0 a0 (Fin2 P ops Q S w0 a0 N) false ops.toList [] Ψ []) : RegAny P ops (Nrm Q) a0 W := by
  obtain ⟨m, φ, Γ, Ψ', mn, bx, ms, bk, f, rfl, hms, h0⟩ := h.out (fun _ _ _ _ => True) (fun _ => []) (fun _ => Ψ) (fun _ => false) (fun _ => false)
    ⟨Nat.zero_le _, rfl, fun _ _ h => by simp at h, fun _ _ _ => rfl, fun _ h => by simp at h, fun _ _ => hsp, fun _ _ h => by simp at h, fun _ _ h => by simp at h, fun _ _ h => by simp at h⟩ rfl rfl rfl (fun _ h => by simp at h) (fun _ _ h => by simp at h)
  have ft := fits_congr (chk_fits f.ok) hms
  refine bk.anyTwo ft hN (fun i o ho e he hb => (chk_edges f.ok i o ho).2 e he hb) (fun listed hdc i o ho hed j hj => need_listed f.ok listed hdc i o ho hed j hj) (fun i j hi his hj => ?_) (fun a g W listed st hs hE => ?_) hk0 (by rw [h0]; exact hψW)
  · rcases ft.tail i j his (by omega) hi with h | h
    · exact h
    · simp at h; omega
  · have hle := bk.le
    refine wpAny_shift hle (fun i o hi ho j want hg => ?_) _ (Array.replicate (shiftR ms.length ops).size false) listed a W hs (by simp) (fun i hi => (hE i).2 hi) (fun i => ?_) ?_
    · have := List.all_eq_true.1 f.gd i (List.mem_range.2 (Array.getElem?_eq_some_iff.1 ho).1)
      simpa [hi, ho, hg] using this
    · have e1 : listed.getD (ms.length + i) false = false := by
        cases hq : listed.getD (ms.length + i) false with
        | false => rfl
        | true => have := (hE _).1 hq; omega
      rw [e1]
      simp only [Array.getD]
      split <;> simp
    · have := f.go a g W (st.size.trans hN) (st.defers.trans hd) st.keeps st.gok (envAll_of bk st _ (Nat.le_refl _)) (fun t ht => st.rest t fun i o hi ho => notIn_of bk _ (Nat.le_refl _) ht i o hi ho) (by
        obtain ⟨q, hq, hall, hψ⟩ := st.ψ
        have : Ψ' ms.length = Ψ' q := bk.psi_eq hq (Nat.le_refl _) fun j h1 h2 => by
          cases hm : mn j with
          | false => rfl
          | true => have := (hall j h2 hm).1 h2; omega
        rw [this]; exact hψ)
      unfold RegAny at this
      rw [shiftR_size] at this
      rw [shiftR_size]
      exact this
theorem wp_reg2 {id N : Nat} {Q : Exit → Act → World → Prop} {Ψ : World → Prop} (S : Nat → Prop) (hm : P.follows .mixedOrders = true) (hN : a0.tmps.size = N) (hd : a0.defers = []) (hsp : StableE Ψ) (hψ : Ψ w0)
    (h : Chain P ops S w0 a0 (Fin2 P ops Q S w0 a0 N) false ops.toList [] Ψ []) : (Code.region id ops true).wp P Q a0 w0 := by
  refine Go.wp_mono (Q := Nrm Q) ?_ (fun e a w h => by obtain ⟨rfl, h⟩ := h; exact h)
  exact wp_region_any hm (reg2_any S hN hd hsp (.drew _) hψ (hsp _ _ (Keeps.drew w0) hψ) h)
end
end Go.Eng
namespace Go.Eng
def rnE (x : V) (m : ByteArray) (lo hi : Int) : Int := if rtB x m 2 = true ∧ ((rtV x m 2).n < lo ∨ hi < (rtV x m 2).n) then 1 else rtE x m 2
def roE (x : V) (m : ByteArray) (mo : Int) : Int := if rbig x m 5 mo = true then 5 else rtE x m 5
def rxE (x : V) (m : ByteArray) (mo : Int) : Int := if (rlL x m mo).all (fun y => y.k == 3) then rlE x m mo else 10
theorem rxE_no {x : V} {m : ByteArray} {mo : Int} {k : Nat} (h : k < (rlL x m mo).length) (hk : (rlL x m mo)[k].k ≠ 3) : rxE x m mo = 10 := by
  rw [rxE, if_neg]
  intro h2
  exact hk (by simpa using List.all_eq_true.1 h2 _ (List.getElem_mem h))
theorem rxE_yes {x : V} {m : ByteArray} {mo : Int} (h : ∀ i (hi : i < (rlL x m mo).length), (rlL x m mo)[i].k = 3) : rxE x m mo = rlE x m mo := by
  rw [rxE, if_pos]
  rw [List.all_eq_true]
  intro y hy
  obtain ⟨i, hi, rfl⟩ := List.getElem_of_mem hy
  simp [h i hi]
def anyB (l : List ByteArray) (s : ByteArray) : Bool := l.any fun q => decide (q = s)
theorem anyB_step {l : List ByteArray} {s : ByteArray} {j : Nat} (h : j < l.length) : anyB (l.take (j + 1)) s = (anyB (l.take j) s || decide (l[j] = s)) := by
  unfold anyB
  rw [List.take_succ_eq_append_getElem h, List.any_append]
  simp only [List.any_cons, List.any_nil, Bool.or_false]
def dnE (ns L : List ByteArray) : Int := if ns.all (anyB L) then 0 else 11
theorem dnE_no {ns L : List ByteArray} {k : Nat} (h : k < ns.length) (hk : anyB L ns[k] = false) : dnE ns L = 11 := by
  rw [dnE, if_neg]
  intro h2
  have := List.all_eq_true.1 h2 _ (List.getElem_mem h)
  rw [hk] at this; cases this
theorem dnE_yes {ns L : List ByteArray} (h : ∀ i (hi : i < ns.length), anyB L ns[i] = true) : dnE ns L = 0 := by
  rw [dnE, if_pos]
  rw [List.all_eq_true]
  intro y hy
  obtain ⟨i, hi, rfl⟩ := List.getElem_of_mem hy
  exact h i hi
def RowR (T e : TypeId) (W0 W : World) (lo : Nat) (S G : BSet) (bb : Nat) (f : Value → List Value) (L : List ByteArray) (hd0 : Option Nat) (Φ : BSet → Value → World → Prop) (u : Value) : Prop :=
  ∃ v' hd', Φ (SA W0 S (bb :: (blks hd' ++ []))) u W ∧ Own W bb (f v') T ∧ Arr W lo e 1 (SA W0 G (bb :: (blks hd' ++ []))) (L.map D.str) v' hd' ∧ bb ∉ blks hd' ∧ ∀ b ∈ blks hd', b ∈ blks hd0 ∨ W0.heap.size ≤ b
def PhT (x : V) (r : Bool) : BSet → Value → World → Prop := fun X u W => ∃ r1, u = .tuple #[r1, .bool r] ∧ Rd W X x.d r1
def PhD (d : D) : BSet → Value → World → Prop := fun X u W => Rd W X d u
def PhI (v : Value) : BSet → Value → World → Prop := fun _ u _ => u = v
def PhX : BSet → Value → World → Prop := fun _ _ _ => True
def StP (Φ : BSet → Value → World → Prop) : Prop := ∀ X u W W', Ext W W' → Φ X u W → Φ X u W'
theorem stp_T {x : V} {r : Bool} : StP (PhT x r) := fun _ _ _ _ k ⟨r1, h1, h2⟩ => ⟨r1, h1, h2.ext k⟩
theorem stp_D {d : D} : StP (PhD d) := fun _ _ _ _ k h => Rd.ext h k
theorem stp_X : StP PhX := fun _ _ _ _ _ h => h
theorem RowR.ext {T e : TypeId} {W0 W W' : World} {lo : Nat} {S G : BSet} {bb : Nat} {f : Value → List Value} {L : List ByteArray} {hd0 : Option Nat} {Φ : BSet → Value → World → Prop} {u : Value} (hΦ : StP Φ) (h : RowR T e W0 W lo S G bb f L hd0 Φ u) (k : Ext W W') : RowR T e W0 W' lo S G bb f L hd0 Φ u :=
  let ⟨v', hd', h1, h2, h3, h4, h5⟩ := h; ⟨v', hd', hΦ _ _ _ _ k h1, h2.ext k, h3.ext k, h4, h5⟩
def RowX (T e : TypeId) (W0 W : World) (lo : Nat) (S G : BSet) (bb : Nat) (f : Value → List Value) (L : List ByteArray) (hd0 : Option Nat) (Φ : BSet → Value → World → Prop) (u : Value) : Prop :=
  ∃ W1, W0.heap.size ≤ W1.heap.size ∧ RowR T e W1 W lo S G bb f L hd0 Φ u
def IsRow (T e : TypeId) (W0 : World) (lo : Nat) (S G : BSet) (bb : Nat) (f : Value → List Value) (L : List ByteArray) (hd0 : Option Nat) (Φ : BSet → Value → World → Prop) : Fact := fun _ u W => RowX T e W0 W lo S G bb f L hd0 Φ u
theorem st_row {T e : TypeId} {W0 : World} {lo : Nat} {S G : BSet} {bb : Nat} {f : Value → List Value} {L : List ByteArray} {hd0 : Option Nat} {Φ : BSet → Value → World → Prop} (hΦ : StP Φ) : Stable All (IsRow T e W0 lo S G bb f L hd0 Φ) :=
  ⟨fun _ _ _ _ k ⟨W1, h, h2⟩ => ⟨W1, h, h2.ext hΦ k⟩, fun _ _ _ _ _ _ h => h⟩
theorem stE_rowX {T e : TypeId} {W0 : World} {lo : Nat} {S G : BSet} {bb : Nat} {f : Value → List Value} {L : List ByteArray} {hd0 : Option Nat} {u : Value} : StableE fun W => RowX T e W0 W lo S G bb f L hd0 PhX u := fun _ _ k ⟨W1, h, h2⟩ => ⟨W1, h, h2.ext stp_X k⟩
theorem rowR_I {T e : TypeId} {W0 W : World} {lo : Nat} {S G : BSet} {bb : Nat} {f : Value → List Value} {L : List ByteArray} {hd0 : Option Nat} {u v : Value} (h : RowR T e W0 W lo S G bb f L hd0 (PhI v) u) : u = v ∧ RowR T e W0 W lo S G bb f L hd0 PhX undef :=
  let ⟨v', hd', h1, h2, h3, h4, h5⟩ := h; ⟨h1, v', hd', trivial, h2, h3, h4, h5⟩
section
variable {w W' W1 : World} {S : BSet} {M M' L : List Nat} {d : D} {v : Value}
theorem rd_outA (h : Rd W' (SA W1 (SA w S M) L) d v) (hs : w.heap.size ≤ W1.heap.size) (hlt : ∀ b ∈ M, b < W1.heap.size) (hr : ∀ b ∈ M', b ∈ M ∨ b ∈ L) : Rd W' (SA w S M') d v := h.mono fun b o hb _ => by
  rcases Nat.lt_or_ge b W1.heap.size with hl | hl
  · have h := hb.1 hl
    exact ⟨h.1, h.2.1, fun hm => (hr b hm).elim h.2.2 hb.2.2⟩
  · exact ⟨fun h1 => by omega, fun _ => hb.2.1 hl, fun hm => (hr b hm).elim (fun h1 => by have := hlt b h1; omega) hb.2.2⟩
end
section
variable {P : Program} {ops : Array Oper} {S : Nat → Prop} {w0 : World} {a0 : Act} {Γ : Ctx}
variable {d : Option Tmp} {ty : TypeId} {pos : String} {af : Array Edge}
variable {K : List Oper → Ctx → (World → Prop) → List Bool → Prop} {l : List Oper} {Ψ : World → Prop} {ms : List Bool}
theorem Chain.callZ {f : FuncId} {xs : Array Operand} {ts : Array TypeId} {φ : Fact} (hf : Enters P f) (hst : Stable All φ)
    (hc : ∀ a g W, Keeps S w0 W → GOk w0 W g → Env Γ a0 a g W (Oper.looksAt ops ⟨d, .call ⟨.value (.func f), xs, ts⟩, ty, pos, af, none⟩) → Ψ W → Calls P f (xs.map a.eval) W fun e W' => ∃ v, e = .returned v ∧ Keeps S W W' ∧ φ g v W')
    (h : Chain P ops S w0 a0 K true l ((d, φ) :: Γ) Tr (true :: ms)) : Chain P ops S w0 a0 K false (⟨d, .call ⟨.value (.func f), xs, ts⟩, ty, pos, af, none⟩ :: l) Γ Ψ ms := by
  refine .last φ Tr hst st_tr (fun a g W hk hg he hψ => ?_) h
  have hw : Region.wanted (⟨d, .call ⟨.value (.func f), xs, ts⟩, ty, pos, af, none⟩ : Oper) (yielded ops a.tmps) = true := rfl
  unfold ObRun; rw [if_pos hw]
  unfold OpRuns
  rw [run_call rfl hf]
  exact (hc a g W hk hg he hψ).mono fun e W' ⟨v, h1, h2, h3⟩ => ⟨v, h1, h2, h3, trivial⟩
theorem Chain.callZ2 {f : FuncId} {x y : Operand} {ts : Array TypeId} {φ1 φ2 φ : Fact} (hf : Enters P f) (hx : Has S w0 a0 Γ x φ1) (hy : Has S w0 a0 Γ y φ2) (hst : Stable All φ)
    (hc : ∀ g u1 u2 W, Keeps S w0 W → GOk w0 W g → φ1 g u1 W → φ2 g u2 W → Ψ W → Calls P f #[u1, u2] W fun e W' => ∃ v, e = .returned v ∧ Keeps S W W' ∧ φ g v W')
    (h : Chain P ops S w0 a0 K true l ((d, φ) :: Γ) Tr (true :: ms)) : Chain P ops S w0 a0 K false (⟨d, .call ⟨.value (.func f), #[x, y], ts⟩, ty, pos, af, none⟩ :: l) Γ Ψ ms :=
  Chain.callZ hf hst (fun a g W hk hg he hψ => by simpa using hc g _ _ W hk hg (hx.of_env hk hg he (by simp [Op.operands, Call.operands])) (hy.of_env hk hg he (by simp [Op.operands, Call.operands])) hψ) h
theorem Chain.callZ3 {f : FuncId} {x y z : Operand} {ts : Array TypeId} {φ1 φ2 φ3 φ : Fact} (hf : Enters P f) (hx : Has S w0 a0 Γ x φ1) (hy : Has S w0 a0 Γ y φ2) (hz : Has S w0 a0 Γ z φ3) (hst : Stable All φ)
    (hc : ∀ g u1 u2 u3 W, Keeps S w0 W → GOk w0 W g → φ1 g u1 W → φ2 g u2 W → φ3 g u3 W → Ψ W → Calls P f #[u1, u2, u3] W fun e W' => ∃ v, e = .returned v ∧ Keeps S W W' ∧ φ g v W')
    (h : Chain P ops S w0 a0 K true l ((d, φ) :: Γ) Tr (true :: ms)) : Chain P ops S w0 a0 K false (⟨d, .call ⟨.value (.func f), #[x, y, z], ts⟩, ty, pos, af, none⟩ :: l) Γ Ψ ms :=
  Chain.callZ hf hst (fun a g W hk hg he hψ => by simpa using hc g _ _ _ W hk hg (hx.of_env hk hg he (by simp [Op.operands, Call.operands])) (hy.of_env hk hg he (by simp [Op.operands, Call.operands])) (hz.of_env hk hg he (by simp [Op.operands, Call.operands])) hψ) h
end
theorem rowIs_str {W W' : World} {X X' : BSet} : ∀ {L : List ByteArray} {cs : List Value}, RowIs W X 1 (L.map D.str) cs → RowIs W' X' 1 (L.map D.str) cs
  | [], cs, h => by simpa [RowIs] using h
  | s :: L, cs, h => by
    simp only [List.map_cons, RowIs] at h ⊢
    obtain ⟨c, r, e, h1, h2, h3⟩ := h
    exact ⟨c, r, e, h1, by simpa [RdC] using h2, rowIs_str h3⟩
theorem arr_str {W : World} {lo : Nat} {e : TypeId} {X X' : BSet} {L : List ByteArray} {v : Value} {hd : Option Nat} (h : Arr W lo e 1 X (L.map D.str) v hd) : Arr W lo e 1 X' (L.map D.str) v hd :=
  let ⟨h1, cs, h2, h3⟩ := h; ⟨h1, cs, h2, rowIs_str h3⟩
theorem arr_strK {W W' : World} {S : Nat → Prop} {lo : Nat} {e : TypeId} {X : BSet} {L : List ByteArray} {v : Value} {hd : Option Nat} (h : Arr W lo e 1 X (L.map D.str) v hd) (k : Keeps S W W') (hs : ∀ b ∈ blks hd, S b) : Arr W' lo e 1 X (L.map D.str) v hd :=
  arr_str (X := fun _ _ => False) ((arr_str h : Arr W lo e 1 (fun _ _ => False) (L.map D.str) v hd).keeps k hs fun _ _ h => h.elim)
def RowP (T e : TypeId) (W : World) (lo bb : Nat) (f : Value → List Value) (L : List ByteArray) (hd : Option Nat) : Prop := ∃ v, Own W bb (f v) T ∧ Arr W lo e 1 (fun _ _ => False) (L.map D.str) v hd ∧ bb ∉ blks hd
section
variable {T e : TypeId} {W W' : World} {lo bb : Nat} {f : Value → List Value} {L : List ByteArray} {hd : Option Nat}
theorem RowP.keeps {S : Nat → Prop} (h : RowP T e W lo bb f L hd) (k : Keeps S W W') (h1 : S bb) (h2 : ∀ b ∈ blks hd, S b) : RowP T e W' lo bb f L hd :=
  let ⟨v, q1, q2, q3⟩ := h; ⟨v, q1.keeps k h1, arr_strK q2 k h2, q3⟩
theorem RowP.ext (h : RowP T e W lo bb f L hd) (k : Ext W W') : RowP T e W' lo bb f L hd := h.keeps k trivial fun _ _ => trivial
theorem RowP.lt (h : RowP T e W lo bb f L hd) : bb < W.heap.size := let ⟨_, q1, _, _⟩ := h; q1.lt
theorem rowP_store {g : Nat} (h : RowP T e W lo bb f L hd) (k : Keeps (fun x => x ≠ g) W W') (hn : bb ≠ g ∧ ∀ b ∈ blks hd, b ≠ g) : RowP T e W' lo bb f L hd := h.keeps k hn.1 hn.2
theorem keeps_Z {K0 Z : Nat → Prop} {w : World} (h : Keeps K0 w W) (k : Keeps (fun x => ¬ Z x) W W') (hz : ∀ b, Z b → w.heap.size ≤ b) : Keeps K0 w W' :=
  ⟨k.os.trans h.os, k.tape.trans h.tape, k.output.trans h.output, Nat.le_trans h.size k.size, fun i hi hs => by
    rw [k.block i (Nat.lt_of_lt_of_le hi h.size) (fun z => by have := hz i z; omega)]; exact h.block i hi hs⟩
theorem rd_u {S : BSet} {d : D} {v : Value} (h : Rd W S d v) : Rd W (fun _ _ => True) d v := h.mono fun _ _ _ _ => trivial
end
def ZRow (W : World) (Z : Nat → Prop) (sz m : Nat) (v : Value) : Prop := ∃ a c, v = .slice a m c ∧ (m = 0 ∨ ∃ b o cs T, a = some ⟨b, o, none⟩ ∧ Z b ∧ Own W b cs T ∧ o + m * sz ≤ cs.length)
theorem ZRow.ext {W W' : World} {Z : Nat → Prop} {sz m : Nat} {v : Value} (h : ZRow W Z sz m v) (k : Ext W W') : ZRow W' Z sz m v := by
  obtain ⟨a, c, e, h⟩ := h
  refine ⟨a, c, e, h.imp id ?_⟩
  rintro ⟨b, o, cs, T, h1, h2, h3, h4⟩
  exact ⟨b, o, cs, T, h1, h2, h3.ext k, h4⟩
theorem zrow_some {W : World} {Z : Nat → Prop} {sz m c i : Nat} {a : Option Addr} (h : ZRow W Z sz m (.slice a m c)) (hi : i < m) : ∃ b o, a = some ⟨b, o, none⟩ := by
  obtain ⟨a', c', e, h⟩ := h
  injection e with e1 _ _
  subst e1
  rcases h with h | ⟨b, o, cs, T, h1, _⟩
  · omega
  · exact ⟨b, o, h1⟩
theorem zrow_at {W : World} {Z : Nat → Prop} {sz m c b o : Nat} {a : Option Addr} (h : ZRow W Z sz m (.slice a m c)) (hm : 0 < m) (ha : a = some ⟨b, o, none⟩) : ∃ cs T, Z b ∧ Own W b cs T ∧ o + m * sz ≤ cs.length := by
  obtain ⟨a', c', e, h⟩ := h
  injection e with e1 _ _
  subst e1
  rcases h with h | ⟨b', o', cs, T, h1, h2⟩
  · omega
  · rw [ha] at h1
    injection h1 with h1
    injection h1 with h3 h4 _
    subst h3; subst h4
    exact ⟨cs, T, h2⟩
theorem tail_storeZ {P : Program} {ops : Array Oper} {Q : Exit → Act → World → Prop} {r : List Oper} {a : Act} {W : World} {T : TypeId} {x y : Operand} {ty : TypeId} {pos : String} {af : Array Edge} {va : Option Addr} {g0 o0 i sz m c : Nat} {Z : Nat → Prop} {v : Value}
    (hx : a.eval x = .pointer (some ⟨g0, o0 + i * sz, none⟩)) (hy : a.eval y = v) (hz : szOf P T = some sz) (hv : v.cells.size = sz) (h1 : ∀ c ∈ v.cells.toList, oneC c = true)
    (A : ZRow W Z sz m (.slice va m c)) (hva : va = some ⟨g0, o0, none⟩) (hi : i < m) (h : ∀ W', Keeps (fun k => k ≠ g0) W W' → Z g0 → ZRow W' Z sz m (.slice va m c) → runTail P ops Q r a W') :
    runTail P ops Q (⟨none, .store T x y, ty, pos, af, none⟩ :: r) a W := by
  obtain ⟨cs, T0, h2, h3, h4⟩ := zrow_at A (by omega) hva
  have hfit : i * sz + sz ≤ m * sz := by rw [← Nat.succ_mul]; exact Nat.mul_le_mul_right _ hi
  have hvl : v.cells.toList.length = sz := by simpa using hv
  refine tail_store hx hy hz hv h3 (by omega) h1 fun W' hk ho => h W' hk h2 ?_
  exact ⟨va, c, rfl, .inr ⟨g0, o0, _, T0, hva, h2, ho, by rw [splice_len (by omega)]; exact h4⟩⟩
theorem zrow_of {W : World} {Z : Nat → Prop} {sz : Nat} {S : BSet} {ds : List D} {v : Value} (h : Rd W S (.lst sz ds) v) (hS : ∀ b o, S b o → Z b ∧ Cln o) (hw : ∀ d ∈ ds, width d = sz) (hsz : 0 < sz) : ZRow W Z sz ds.length v := by
  obtain ⟨cs, hr, rfl⟩ := h
  simp only [RdC] at hr
  obtain ⟨a, cap, rfl, -, -, h4⟩ := hr
  refine ⟨a, cap, rfl, ?_⟩
  rcases h4 with h4 | ⟨b, o, rfl, hb, hlt, hl⟩
  · left; rw [h4]; rfl
  · by_cases h0 : ds.length = 0
    · exact .inl h0
    · right
      obtain ⟨hn, c, T, hc⟩ := hS b _ hb
      refine ⟨b, o, c.toList, T, rfl, hn, by unfold Own; simpa using hc, ?_⟩
      obtain ⟨cs, h1, h2, h3⟩ := hl.get (ds.length - 1) (by omega)
      have hq := h2 (sz - 1) (by omega)
      unfold World.cell? at hq
      rw [hc] at hq
      simp at hq
      obtain ⟨hq, -⟩ := Array.getElem?_eq_some_iff.1 hq
      have : ds.length * sz = (ds.length - 1) * sz + sz := by rw [← Nat.succ_mul]; congr 1; omega
      simp
      omega
def rqE (x : V) (c : Cl) : Int :=
  if c.wh = 0 then 0 else if c.wh = 1 then rtE x c.nm 3 else if c.wh = 2 then rnE x c.nm c.lo c.hi else if c.wh = 3 then rtE x c.nm 1 else if c.wh = 4 then rlE x c.nm c.mo
  else if c.wh = 5 then rxE x c.nm c.mo else if c.wh = 6 then roE x c.nm c.mo else if c.wh = 7 then rtE x c.nm 0 else if c.wh = 8 then c.er else 0
def rqL (c : Cl) (L : List ByteArray) : List ByteArray :=
  if c.wh = 0 then L else if c.wh = 1 then L ++ [c.nm] else if c.wh = 2 then L ++ [c.nm] else if c.wh = 3 then L ++ [c.nm] else if c.wh = 4 then L ++ [c.nm]
  else if c.wh = 5 then L ++ [c.nm] else if c.wh = 6 then L ++ [c.nm] else if c.wh = 7 then L ++ [c.nm] else L
theorem lst_cnt (b : Bool) (mo : Int) (y : V) : (V.mk 0 0 ⟨#[]⟩ [] (if b then listV mo y else [])).cnt ≤ y.cnt := by
  obtain ⟨k, n, t, ns, xs⟩ := y
  have h0 : V.cnts ([] : List V) = 0 := rfl
  simp only [V.cnt, listV, itemsV]
  split
  · split
    · exact Nat.le_refl _
    · rw [h0]; omega
  · rw [h0]; omega
end Go.Eng
