import Derived.Test.YtnobijngkpflcaaH4
namespace Go.Proofs.Ytnobijngkpflcaa
open Go.Eng
set_option maxRecDepth 100000 in
theorem Texts_ok (x : V) (A : As) (e : Int) (hA : AB 1000000 A) (hx : x.wt ≤ 1073741824) (hxt : x.t.size ≤ maxLen) (name : ByteArray) (most : Int) (w : World) (S : BSet) (cn ci : Value) (bo bm : Nat) (hS : ∀ b o, S b o → Cln o) (hM : ∀ b ∈ [bo, bm], ∀ o, ¬ S b o) (hne : bo ≠ bm) (hv : Rd w S (strsD x.ns) cn) (hu : Rd w S (valsD x.xs) ci) (own_bo : Own w bo [.int .u8 x.k, .int .i64 x.n, .string x.t, cn, ci, .map (some bm), .int .i64 (e)] 74) (own_bm : OwnM w bm A) : Calls Try.prog 41 #[.pointer (some ⟨bo, 0, none⟩), .string name, .int .i64 most] w (RetL w [bo, bm] fun u W => Rd W (Fr w) (strsD (if tkB x e name (textsE most) then textsL most (getV x name) else [])) u ∧ Own W bo [.int .u8 x.k, .int .i64 x.n, .string x.t, cn, ci, .map (some bm), .int .i64 (tkE x e name (textsE most))] 74 ∧ OwnM W bm (tkA x A e name (textsE most))) := by
  obtain ⟨cna, cnc, ev, D_cn⟩ := rdS_out (rd_argM (M := [bo, bm]) hv hM)
  subst ev
  obtain ⟨cia, cic, ev, D_ci⟩ := rdVs_out (rd_argM (M := [bo, bm]) hu hM)
  subst ev
  refine enter Try.func41 rfl Try.ntmps41 (lbr rfl) fun a0 y0 zz0 harg => ?_
  have e0 : sl a0 0 = (.pointer (some ⟨bo, 0, none⟩)) := harg 0 (lbr rfl)
  have e1 : sl a0 1 = (.string (name)) := harg 1 (lbr rfl)
  have e2 : sl a0 2 = (.int .i64 (most)) := harg 2 (lbr rfl)
  have kw := Keeps.refl (fun k => k ∉ [bo, bm]) w
  clear harg
  refine wp_seq_k fun K1 hK1 => ?_
  refine rg mixed y0 zz0 ?_
  refine .boxOp (v := (.int .i64 (most))) (hbs rfl e2) ?_
  refine .i (sp_assign Has.cst) ?_
  refine .done ⟨by kernel_rfl, fun a2 g W2 y2 zz2 hk hg hV hR hP => ?_⟩
  obtain ⟨-, ⟨b5_2, e5, hb5, own_b5_2⟩, -⟩ := hV
  have lo_b5_2 : w.heap.size ≤ b5_2 := Nat.le_trans kw.size (hg.lo _ _ hb5)
  have ne_bo_b5_2 : bo ≠ b5_2 := Nat.ne_of_lt (Nat.lt_of_lt_of_le own_bo.lt (hg.lo _ _ hb5))
  have ne_bm_b5_2 : bm ≠ b5_2 := Nat.ne_of_lt (Nat.lt_of_lt_of_le own_bm.lt (hg.lo _ _ hb5))
  have own_b5_2 : Own W2 b5_2 [(.int .i64 (most))] 3 := own_b5_2
  replace e0 := (hR 0 rfl).trans e0
  replace e1 := (hR 1 rfl).trans e1
  replace D_cn := sa_more D_cn hk [b5_2] (in_cons (hg.lo _ _ hb5) in_nil)
  replace D_ci := sa_more D_ci hk [b5_2] (in_cons (hg.lo _ _ hb5) in_nil)
  replace own_bo := own_bo.ext hk
  replace own_bm := own_bm.ext hk
  replace kw := kw.x hk
  clear hR hk hg hP hb5
  refine tail_nil (hK1 _ _ ?_)
  refine wp_seq_k fun K3 hK3 => ?_
  refine wp_reg (fun k => k ∉ [bo, bm]) (Ψ := fun W => Own W bo [(.int .u8 (x.k)), (.int .i64 (x.n)), (.string (x.t)), (.slice cna (x.ns.length) cnc), (.slice cia (x.xs.length) cic), (.map (some bm)), (.int .i64 (e))] 74 ∧ OwnM W bm (A)) mixed y2 zz2 (stE_and stE_own stE_ownM) ⟨own_bo, own_bm⟩ ?_
  refine .i (sp_move (hbs rfl e0)) ?_
  refine .i (sp_move (hbs rfl e1)) ?_
  refine .i (v := (.func (.func 99) #[] #[(.pointer (some ⟨b5_2, 0, none⟩))])) (sp_mkF1 (hbs rfl e5)) ?_
  refine .callL3 (φ1 := Is (.pointer (some ⟨bo, 0, none⟩))) (φ2 := Is (.string (name))) (φ3 := Is (.func (.func 99) #[] #[(.pointer (some ⟨b5_2, 0, none⟩))])) (φ := IsD (Fr W2) (strsD (if tkB x e name (textsE most) then textsL most (getV x name) else []))) (Ψ' := fun W => Own W bo [(.int .u8 (x.k)), (.int .i64 (x.n)), (.string (x.t)), (.slice cna (x.ns.length) cnc), (.slice cia (x.xs.length) cic), (.map (some bm)), (.int .i64 (tkE x e name (textsE most)))] 74 ∧ OwnM W bm (tkA x A e name (textsE most))) ent98 (hlc rfl) (hlc rfl) (hlc rfl) (st_d (sub_frnl (in_cons own_bo.lt (in_cons own_bm.lt in_nil)))) (stE_and stE_own stE_ownM) (fun g u1 u2 u3 W hk hg h1 h2 h3 hP => by have h1 : u1 = _ := h1; subst u1; have h2 : u2 = _ := h2; subst u2; have h3 : u3 = _ := h3; subst u3; exact (takeS_ok (x) (A) (e) hA hx hxt name 99 #[(.pointer (some ⟨b5_2, 0, none⟩))] (textsE most) (textsL most) W _ _ _ _ _ (sa_cln hS) (sa_notin (by simp)) hne (sa_keepL D_cn hk (by simp)) (sa_keepL D_ci hk (by simp)) hP.1 hP.2 ent99 (fun W2 hk2 y v hy hv2 => texts1_ok y most hy W2 _ v b5_2 hv2 (own_keepL (own_keepL own_b5_2 hk (by simp [ne_bo_b5_2.symm, ne_bm_b5_2.symm])) hk2 (by simp [ne_bo_b5_2.symm, ne_bm_b5_2.symm])))).mono (fun _ _ ⟨v, h1, h2, h3, h4⟩ => ⟨v, h1, h2, fresh_d hk hg h3, h4⟩)) ?_
  refine .op (φ := IsD (Fr W2) (strsD (if tkB x e name (textsE most) then textsL most (getV x name) else []))) (st_d (sub_frnl (in_cons own_bo.lt (in_cons own_bm.lt in_nil)))) (sp_assign (hlc rfl)) ?_
  refine .done ⟨by kernel_rfl, fun a4 g W4 y4 zz4 hk hg hV hR hP => ?_⟩
  obtain ⟨e6, -, -, -, -, -⟩ := hV
  obtain ⟨v6_4, ev⟩ : ∃ v, sl a4 6 = v := ⟨_, rfl⟩
  rw [ev] at e6
  have D_v6_4 : Rd W4 (SF w [b5_2, bo, bm]) (strsD (if tkB x e name (textsE most) then textsL most (getV x name) else [])) v6_4 := fr_end (M := [b5_2, bo, bm]) e6 kw [] in_nil (in_cons own_b5_2.lt (in_cons own_bo.lt (in_cons own_bm.lt in_nil)))
  replace e6 := ev; clear ev
  obtain ⟨v6_4a, v6_4c, ev, D2⟩ := rdS_out D_v6_4
  subst ev; replace D_v6_4 := D2; clear D2
  replace D_cn := sa_keepL D_cn hk (by simp)
  replace D_ci := sa_keepL D_ci hk (by simp)
  replace own_b5_2 := own_keepL own_b5_2 hk (by simp [ne_bo_b5_2.symm, ne_bm_b5_2.symm])
  obtain ⟨own_bo, own_bm⟩ := hP
  replace own_bo : Own W4 bo [(.int .u8 (x.k)), (.int .i64 (x.n)), (.string (x.t)), (.slice cna (x.ns.length) cnc), (.slice cia (x.xs.length) cic), (.map (some bm)), (.int .i64 (tkE x e name (textsE most)))] 74 := own_bo
  replace own_bm : OwnM W4 bm (tkA x A e name (textsE most)) := own_bm
  replace kw := keeps_L kw hk (in_cons (.inr (by simp)) (in_cons (.inr (by simp)) in_nil))
  clear hR hk hg
  refine tail_nil (hK3 _ _ ?_)
  refine wp_ret ?_
  refine (show bodyPost Try.prog Try.f41 _ .ret _ _ from ret1 rfl zz4 e6 ⟨_, rfl, kw, ?_⟩)
  exact ⟨sf_fr D_v6_4, own_bo, own_bm⟩

set_option maxRecDepth 100000 in
theorem Num_ok (x : V) (A : As) (e : Int) (hA : AB 1000000 A) (hx : x.wt ≤ 1073741824) (hxt : x.t.size ≤ maxLen) (name : ByteArray) (lo hi : Int) (w : World) (S : BSet) (cn ci : Value) (bo bm : Nat) (hS : ∀ b o, S b o → Cln o) (hM : ∀ b ∈ [bo, bm], ∀ o, ¬ S b o) (hne : bo ≠ bm) (hv : Rd w S (strsD x.ns) cn) (hu : Rd w S (valsD x.xs) ci) (own_bo : Own w bo [.int .u8 x.k, .int .i64 x.n, .string x.t, cn, ci, .map (some bm), .int .i64 (e)] 74) (own_bm : OwnM w bm A) : Calls Try.prog 44 #[.pointer (some ⟨bo, 0, none⟩), .string name, .int .i64 lo, .int .i64 hi] w (RetL w [bo, bm] fun u W => u = .int .i64 (if tkB x e name (numE lo hi) then numV lo hi (getV x name) else 0) ∧ Own W bo [.int .u8 x.k, .int .i64 x.n, .string x.t, cn, ci, .map (some bm), .int .i64 (tkE x e name (numE lo hi))] 74 ∧ OwnM W bm (tkA x A e name (numE lo hi))) := by
  obtain ⟨cna, cnc, ev, D_cn⟩ := rdS_out (rd_argM (M := [bo, bm]) hv hM)
  subst ev
  obtain ⟨cia, cic, ev, D_ci⟩ := rdVs_out (rd_argM (M := [bo, bm]) hu hM)
  subst ev
  refine enter Try.func44 rfl Try.ntmps44 (lbr rfl) fun a0 y0 zz0 harg => ?_
  have e0 : sl a0 0 = (.pointer (some ⟨bo, 0, none⟩)) := harg 0 (lbr rfl)
  have e1 : sl a0 1 = (.string (name)) := harg 1 (lbr rfl)
  have e2 : sl a0 2 = (.int .i64 (lo)) := harg 2 (lbr rfl)
  have e3 : sl a0 3 = (.int .i64 (hi)) := harg 3 (lbr rfl)
  have kw := Keeps.refl (fun k => k ∉ [bo, bm]) w
  clear harg
  refine wp_seq_k fun K1 hK1 => ?_
  refine rg mixed y0 zz0 ?_
  refine .boxOp (v := (.int .i64 (lo))) (hbs rfl e2) ?_
  refine .boxOp (v := (.int .i64 (hi))) (hbs rfl e3) ?_
  refine .i (sp_assign Has.cst) ?_
  refine .done ⟨by kernel_rfl, fun a2 g W2 y2 zz2 hk hg hV hR hP => ?_⟩
  obtain ⟨-, ⟨b7_2, e7, hb7, own_b7_2⟩, ⟨b6_2, e6, hb6, own_b6_2⟩, -⟩ := hV
  have lo_b7_2 : w.heap.size ≤ b7_2 := Nat.le_trans kw.size (hg.lo _ _ hb7)
  have ne_bo_b7_2 : bo ≠ b7_2 := Nat.ne_of_lt (Nat.lt_of_lt_of_le own_bo.lt (hg.lo _ _ hb7))
  have ne_bm_b7_2 : bm ≠ b7_2 := Nat.ne_of_lt (Nat.lt_of_lt_of_le own_bm.lt (hg.lo _ _ hb7))
  have own_b7_2 : Own W2 b7_2 [(.int .i64 (hi))] 2 := own_b7_2
  have lo_b6_2 : w.heap.size ≤ b6_2 := Nat.le_trans kw.size (hg.lo _ _ hb6)
  have ne_bo_b6_2 : bo ≠ b6_2 := Nat.ne_of_lt (Nat.lt_of_lt_of_le own_bo.lt (hg.lo _ _ hb6))
  have ne_bm_b6_2 : bm ≠ b6_2 := Nat.ne_of_lt (Nat.lt_of_lt_of_le own_bm.lt (hg.lo _ _ hb6))
  have own_b6_2 : Own W2 b6_2 [(.int .i64 (lo))] 2 := own_b6_2
  have ne_b7_2_b6_2 : b7_2 ≠ b6_2 := fun h => by have := hg.inj _ _ _ hb7 (h ▸ hb6); cases this
  replace e0 := (hR 0 rfl).trans e0
  replace e1 := (hR 1 rfl).trans e1
  replace D_cn := sa_more D_cn hk [b7_2, b6_2] (in_cons (hg.lo _ _ hb7) (in_cons (hg.lo _ _ hb6) in_nil))
  replace D_ci := sa_more D_ci hk [b7_2, b6_2] (in_cons (hg.lo _ _ hb7) (in_cons (hg.lo _ _ hb6) in_nil))
  replace own_bo := own_bo.ext hk
  replace own_bm := own_bm.ext hk
  replace kw := kw.x hk
  clear hR hk hg hP hb7 hb6
  refine tail_nil (hK1 _ _ ?_)
  refine wp_seq_k fun K3 hK3 => ?_
  refine wp_reg (fun k => k ∉ [bo, bm]) (Ψ := fun W => Own W bo [(.int .u8 (x.k)), (.int .i64 (x.n)), (.string (x.t)), (.slice cna (x.ns.length) cnc), (.slice cia (x.xs.length) cic), (.map (some bm)), (.int .i64 (e))] 74 ∧ OwnM W bm (A)) mixed y2 zz2 (stE_and stE_own stE_ownM) ⟨own_bo, own_bm⟩ ?_
  refine .i (sp_move (hbs rfl e0)) ?_
  refine .i (sp_move (hbs rfl e1)) ?_
  refine .i (v := (.func (.func 105) #[] #[(.pointer (some ⟨b6_2, 0, none⟩)), (.pointer (some ⟨b7_2, 0, none⟩))])) (sp_mkF2 (hbs rfl e6) (hbs rfl e7)) ?_
  refine .callL3 (φ1 := Is (.pointer (some ⟨bo, 0, none⟩))) (φ2 := Is (.string (name))) (φ3 := Is (.func (.func 105) #[] #[(.pointer (some ⟨b6_2, 0, none⟩)), (.pointer (some ⟨b7_2, 0, none⟩))])) (φ := Is (.int .i64 (if tkB x e name (numE lo hi) then numV lo hi (getV x name) else 0))) (Ψ' := fun W => Own W bo [(.int .u8 (x.k)), (.int .i64 (x.n)), (.string (x.t)), (.slice cna (x.ns.length) cnc), (.slice cia (x.xs.length) cic), (.map (some bm)), (.int .i64 (tkE x e name (numE lo hi)))] 74 ∧ OwnM W bm (tkA x A e name (numE lo hi))) ent104 (hlc rfl) (hlc rfl) (hlc rfl) (st_is _) (stE_and stE_own stE_ownM) (fun g u1 u2 u3 W hk hg h1 h2 h3 hP => by have h1 : u1 = _ := h1; subst u1; have h2 : u2 = _ := h2; subst u2; have h3 : u3 = _ := h3; subst u3; exact (takeI_ok (x) (A) (e) hA hx hxt name 105 #[(.pointer (some ⟨b6_2, 0, none⟩)), (.pointer (some ⟨b7_2, 0, none⟩))] (numE lo hi) (numV lo hi) W _ _ _ _ _ (sa_cln hS) (sa_notin (by simp)) hne (sa_keepL D_cn hk (by simp)) (sa_keepL D_ci hk (by simp)) hP.1 hP.2 ent105 (fun W2 hk2 y v hy hv2 => num1_ok y lo hi W2 _ v b6_2 b7_2 hv2 (own_keepL (own_keepL own_b6_2 hk (by simp [ne_bo_b6_2.symm, ne_bm_b6_2.symm])) hk2 (by simp [ne_bo_b6_2.symm, ne_bm_b6_2.symm])) (own_keepL (own_keepL own_b7_2 hk (by simp [ne_bo_b7_2.symm, ne_bm_b7_2.symm])) hk2 (by simp [ne_bo_b7_2.symm, ne_bm_b7_2.symm]))))) ?_
  refine .i (sp_assign (hlc rfl)) ?_
  refine .done ⟨by kernel_rfl, fun a4 g W4 y4 zz4 hk hg hV hR hP => ?_⟩
  obtain ⟨e8, -, -, -, -, -⟩ := hV
  replace e8 := e8.q
  replace D_cn := sa_keepL D_cn hk (by simp)
  replace D_ci := sa_keepL D_ci hk (by simp)
  replace own_b7_2 := own_keepL own_b7_2 hk (by simp [ne_bo_b7_2.symm, ne_bm_b7_2.symm])
  replace own_b6_2 := own_keepL own_b6_2 hk (by simp [ne_bo_b6_2.symm, ne_bm_b6_2.symm])
  obtain ⟨own_bo, own_bm⟩ := hP
  replace own_bo : Own W4 bo [(.int .u8 (x.k)), (.int .i64 (x.n)), (.string (x.t)), (.slice cna (x.ns.length) cnc), (.slice cia (x.xs.length) cic), (.map (some bm)), (.int .i64 (tkE x e name (numE lo hi)))] 74 := own_bo
  replace own_bm : OwnM W4 bm (tkA x A e name (numE lo hi)) := own_bm
  replace kw := keeps_L kw hk (in_cons (.inr (by simp)) (in_cons (.inr (by simp)) in_nil))
  clear hR hk hg
  refine tail_nil (hK3 _ _ ?_)
  refine wp_ret ?_
  refine (show bodyPost Try.prog Try.f44 _ .ret _ _ from ret1 rfl zz4 e8 ⟨_, rfl, kw, ?_⟩)
  exact ⟨rfl, own_bo, own_bm⟩

set_option maxRecDepth 100000 in
theorem Done_ok (x : V) (A : As) (e : Int) (w : World) (S : BSet) (cn ci : Value) (bo bm : Nat) (hv : Rd w S (strsD x.ns) cn) (own_bo : Own w bo [.int .u8 x.k, .int .i64 x.n, .string x.t, cn, ci, .map (some bm), .int .i64 (e)] 74) (own_bm : OwnM w bm A) : Calls Try.prog 32 #[.pointer (some ⟨bo, 0, none⟩)] w (Ret w fun u _ => u = .int .i64 (doneE x A e)) := by
  have hmn := rd_lenS hv
  simp only [maxLen] at hmn
  obtain ⟨cna, cnc, ev, D_cn⟩ := rdS_out (rd_arg hv)
  subst ev
  refine enter Try.func32 rfl Try.ntmps32 (lbr rfl) fun a0 y0 zz0 harg => ?_
  have e0 : sl a0 0 = (.pointer (some ⟨bo, 0, none⟩)) := harg 0 (lbr rfl)
  have kw := Keeps.refl All w
  clear harg
  refine wp_seq_k fun K1 hK1 => ?_
  refine rg mixed y0 zz0 ?_
  refine .i (sp_assign Has.cst) ?_
  refine .done ⟨by kernel_rfl, fun a2 g W2 y2 zz2 hk hg hV hR hP => ?_⟩
  obtain ⟨-, -⟩ := hV
  replace e0 := (hR 0 rfl).trans e0
  replace D_cn := D_cn.ext hk
  replace own_bo := own_bo.ext hk
  replace own_bm := own_bm.ext hk
  replace kw := kw.x hk
  clear hR hk hg hP
  refine tail_nil (hK1 _ _ ?_)
  refine wp_seq_k fun K3 hK3 => ?_
  refine wp_seq_k fun K4 hK4 => ?_
  refine rg mixed y2 zz2 ?_
  refine .i (sp_move (hbs rfl e0)) ?_
  refine .i (v := (.int .i64 (errK x.k e))) (sp_call1 (φ1 := Is (.pointer (some ⟨bo, 0, none⟩))) ent24 (hlc rfl) (fun g u1 W hk hgk h1 => by have h1 : u1 = _ := h1; subst u1; exact Err_ok _ _ _ _ _ _ _ W _ (own_bo.ext hk))) ?_
  refine .i (sp_assign (hlc rfl)) ?_
  refine .done ⟨by kernel_rfl, fun a5 g W5 y5 zz5 hk hg hV hR hP => ?_⟩
  obtain ⟨e3, -, -, -⟩ := hV
  replace e0 := (hR 0 rfl).trans e0
  replace D_cn := D_cn.ext hk
  have e3 : sl a5 3 = (.int .i64 (errK x.k e)) := e3
  replace own_bo := own_bo.ext hk
  replace own_bm := own_bm.ext hk
  replace kw := kw.x hk
  clear hR hk hg hP
  refine tail_nil (hK4 _ _ ?_)
  refine wp_seq_k fun K6 hK6 => ?_
  refine rg mixed y5 zz5 ?_
  refine .i (sp_move (hbs rfl e3)) ?_
  refine .i (sp_neq (hlc rfl) Has.cst) ?_
  refine .done ⟨by kernel_rfl, fun a7 g W7 y7 zz7 hk hg hV hR hP => ?_⟩
  obtain ⟨e9, -, -⟩ := hV
  replace e0 := (hR 0 rfl).trans e0
  replace e3 := (hR 3 rfl).trans e3
  replace D_cn := D_cn.ext hk
  replace e9 := e9.q
  replace own_bo := own_bo.ext hk
  replace own_bm := own_bm.ext hk
  replace kw := kw.x hk
  clear hR hk hg hP
  refine tail_nil (hK6 _ _ ?_)
  refine wp_cond_split e9 (fun hc => ?_) (fun hc => ?_)
  ·
   have hE : errK x.k e ≠ 0 := by simpa using hc
   have hf : doneE x A e = errK x.k e := by rw [doneE, if_pos hE]
   refine wp_seq_k fun K8 hK8 => ?_
   refine rg mixed y7 zz7 ?_
   refine .i (sp_move (hbs rfl e3)) ?_
   refine .i (sp_assign (hlc rfl)) ?_
   refine .done ⟨by kernel_rfl, fun a9 g W9 y9 zz9 hk hg hV hR hP => ?_⟩
   obtain ⟨e2, -, -⟩ := hV
   replace D_cn := D_cn.ext hk
   have e2 : sl a9 2 = (.int .i64 (errK x.k e)) := e2
   replace own_bo := own_bo.ext hk
   replace own_bm := own_bm.ext hk
   replace kw := kw.x hk
   clear hR hk hg hP
   refine tail_nil (hK8 _ _ ?_)
   refine wp_ret ?_
   refine (show bodyPost Try.prog Try.f32 _ .ret _ _ from ret1 rfl zz9 e2 ⟨_, rfl, kw, ?_⟩)
   rw [hf]
  ·
   have hE : errK x.k e = 0 := by simpa using hc
   refine wp_skip (hK3 _ _ ?_)
   refine wp_seq_k fun K10 hK10 => ?_
   refine wp_seq_k fun K11 hK11 => ?_
   refine rg mixed y7 zz7 ?_
   refine .i (sp_move (hbs rfl e0)) ?_
   refine .i (sp_nilP (hlc rfl)) ?_
   refine .i (fo 0 (hlc rfl) Try.underlying74 rfl sz33 rfl) ?_
   refine .i (fo 3 (hlc rfl) Try.underlying33 rfl sz23 rfl) ?_
   refine .i (lo1 (hlc rfl) own_bo trivial agg23 sz23 rfl) ?_
   refine .i (sp_lenSs Try.underlying23 ((hlc rfl).dat D_cn sub_all)) ?_
   refine .i (sp_move Has.cst) ?_
   refine .done ⟨by kernel_rfl, fun a12 g W12 y12 zz12 hk hg hV hR hP => ?_⟩
   obtain ⟨e17, e16, e15, -, -, -, -, -⟩ := hV
   replace e0 := (hR 0 rfl).trans e0
   replace D_cn := D_cn.ext hk
   have e15 : sl a12 15 = (.slice cna (x.ns.length) cnc) := e15
   have e16 : sl a12 16 = (.int .i64 (x.ns.length)) := e16
   have e17 : sl a12 17 = (.int .i64 (0)) := e17
   replace own_bo := own_bo.ext hk
   replace own_bm := own_bm.ext hk
   replace kw := kw.x hk
   clear hR hk hg hP
   refine tail_nil (hK11 _ _ ?_)
   refine wp_block ?_
   refine wp_for (x.ns.length) (fun k a W => a.tmps.size = 29 ∧ a.defers = [] ∧ Keeps All w W ∧ sl a 0 = (.pointer (some ⟨bo, 0, none⟩)) ∧ sl a 15 = (.slice cna (x.ns.length) cnc) ∧ sl a 16 = (.int .i64 (x.ns.length)) ∧ sl a 17 = (.int .i64 ((k : Nat))) ∧ Own W bo [(.int .u8 (x.k)), (.int .i64 (x.n)), (.string (x.t)), (.slice cna (x.ns.length) cnc), ci, (.map (some bm)), (.int .i64 (e))] 74 ∧ OwnM W bm (A) ∧ Rd W (SA w S []) (strsD (x.ns)) (.slice cna (x.ns.length) cnc) ∧ (∀ i (h : i < x.ns.length), i < k → mget A x.ns[i] ≠ 0)) ⟨y12, zz12, kw, e0, e15, e16, (e17.trans (congrArg (Value.int .i64) (rfl))), own_bo, own_bm, D_cn, fun i h hi => absurd hi (by omega)⟩ ?_
   clear kw e0 e15 e16 e17 own_bo own_bm D_cn
   rintro k a13 W13 hkk ⟨y13, zz13, kw, e0, e15, e16, e17, own_bo, own_bm, D_cn, hinv⟩
   refine wp_seq_k fun K14 hK14 => ?_
   refine rg mixed y13 zz13 ?_
   refine .i (sp_lss (hbs rfl e17) (hbs rfl e16)) ?_
   refine .done ⟨by kernel_rfl, fun a15 g W15 y15 zz15 hk hg hV hR hP => ?_⟩
   obtain ⟨e18, -⟩ := hV
   replace e0 := (hR 0 rfl).trans e0
   replace e15 := (hR 15 rfl).trans e15
   replace e16 := (hR 16 rfl).trans e16
   replace e17 := (hR 17 rfl).trans e17
   replace D_cn := D_cn.ext hk
   replace e18 := e18.q
   replace own_bo := own_bo.ext hk
   replace own_bm := own_bm.ext hk
   replace kw := kw.x hk
   clear hR hk hg hP
   refine tail_nil (hK14 _ _ ?_)
   refine wp_seq_k fun K16 hK16 => ?_
   refine wp_cond_split e18 (fun hc => ?_) (fun hc => ?_)
   ·
    have hlt : k < x.ns.length := by simpa using hc
    refine wp_skip (hK16 _ _ ?_)
    refine wp_seq_k fun K17 hK17 => ?_
    refine wp_block ?_
    refine wp_seq_k fun K18 hK18 => ?_
    refine rg mixed y15 zz15 ?_
    refine .rf (sp_indexS (i := k) ((hbs rfl e15).dat D_cn sub_all) (hbs rfl e17) Try.underlying23 sz9 rfl hlt) ?_
    refine .i (sp_loadStr (hlc rfl) agg9 sz9) ?_
    refine .i (sp_assign (hlc rfl)) ?_
    refine .done ⟨by kernel_rfl, fun a19 g W19 y19 zz19 hk hg hV hR hP => ?_⟩
    obtain ⟨e5, -, -, -⟩ := hV
    replace e0 := (hR 0 rfl).trans e0
    replace e15 := (hR 15 rfl).trans e15
    replace e16 := (hR 16 rfl).trans e16
    replace e17 := (hR 17 rfl).trans e17
    replace D_cn := D_cn.ext hk
    have e5 : sl a19 5 = (.string (x.ns[k]'hlt)) := e5
    replace own_bo := own_bo.ext hk
    replace own_bm := own_bm.ext hk
    replace kw := kw.x hk
    clear hR hk hg hP
    refine tail_nil (hK18 _ _ ?_)
    refine wp_seq_k fun K20 hK20 => ?_
    refine rg mixed y19 zz19 ?_
    refine .i (sp_move (hbs rfl e0)) ?_
    refine .i (sp_nilP (hlc rfl)) ?_
    refine .i (fo 5 (hlc rfl) Try.underlying74 rfl sz72 rfl) ?_
    refine .i (lo1 (hlc rfl) own_bo trivial agg72 sz72 rfl) ?_
    refine .i (sp_move (hbs rfl e5)) ?_
    refine .i (sp_lookup Try.underlying72 Try.underlying9 z3 (hlc rfl) (hlc rfl) own_bm trivial) ?_
    refine .i (sp_eql (hlc rfl) Has.cst) ?_
    refine .done ⟨by kernel_rfl, fun a21 g W21 y21 zz21 hk hg hV hR hP => ?_⟩
    obtain ⟨e27, -, -, -, -, -, -, -⟩ := hV
    replace e0 := (hR 0 rfl).trans e0
    replace e15 := (hR 15 rfl).trans e15
    replace e16 := (hR 16 rfl).trans e16
    replace e17 := (hR 17 rfl).trans e17
    replace D_cn := D_cn.ext hk
    replace e27 := e27.q
    replace own_bo := own_bo.ext hk
    replace own_bm := own_bm.ext hk
    replace kw := kw.x hk
    clear hR hk hg hP
    refine tail_nil (hK20 _ _ ?_)
    refine wp_cond_split e27 (fun hc => ?_) (fun hc => ?_)
    ·
     have h0 : mget A x.ns[k] = 0 := by simpa using hc
     have hf : doneE x A e = 11 := by rw [doneE, if_neg (by simp [hE]), done_false hlt h0]; rfl
     refine wp_seq_k fun K22 hK22 => ?_
     refine rg mixed y21 zz21 ?_
     refine .i (sp_assign Has.cst) ?_
     refine .done ⟨by kernel_rfl, fun a23 g W23 y23 zz23 hk hg hV hR hP => ?_⟩
     obtain ⟨e2, -⟩ := hV
     replace D_cn := D_cn.ext hk
     have e2 : sl a23 2 = (.int .i64 (11)) := e2
     replace own_bo := own_bo.ext hk
     replace own_bm := own_bm.ext hk
     replace kw := kw.x hk
     clear hR hk hg hP
     refine tail_nil (hK22 _ _ ?_)
     refine wp_ret ?_
     refine (show bodyPost Try.prog Try.f32 _ .ret _ _ from ret1 rfl zz23 e2 ⟨_, rfl, kw, ?_⟩)
     rw [hf]
    ·
     have h0 : mget A x.ns[k] ≠ 0 := by simpa using hc
     refine wp_skip (hK17 _ _ ?_)
     refine rg mixed y21 zz21 ?_
     refine .i (sp_add (hbs rfl e17) Has.cst (i64_in (by omega))) ?_
     refine .i (sp_move (hlc rfl)) ?_
     refine .done ⟨by kernel_rfl, fun a24 g W24 y24 zz24 hk hg hV hR hP => ?_⟩
     obtain ⟨e17, -, -⟩ := hV
     replace e0 := (hR 0 rfl).trans e0
     replace e15 := (hR 15 rfl).trans e15
     replace e16 := (hR 16 rfl).trans e16
     replace D_cn := D_cn.ext hk
     replace e17 := e17.q
     replace own_bo := own_bo.ext hk
     replace own_bm := own_bm.ext hk
     replace kw := kw.x hk
     clear hR hk hg hP
     exact tail_nil ⟨hlt, y24, zz24, kw, e0, e15, e16, (e17.trans (congrArg (Value.int .i64) (by simp))), own_bo, own_bm, D_cn, fun i h hi => by rcases Nat.lt_succ_iff_lt_or_eq.1 hi with h1 | h1; exact hinv i h h1; subst h1; exact h0⟩
   ·
    have hge0 : ¬ k < x.ns.length := by simpa using hc
    have hge : k = x.ns.length := by omega
    have hf : doneE x A e = 0 := by rw [doneE, if_neg (by simp [hE]), if_pos (done_true fun i hi => hinv i hi (by omega))]
    refine wp_exit (hK10 _ _ ?_)
    refine wp_seq_k fun K25 hK25 => ?_
    refine rg mixed y15 zz15 ?_
    refine .i (sp_assign Has.cst) ?_
    refine .done ⟨by kernel_rfl, fun a26 g W26 y26 zz26 hk hg hV hR hP => ?_⟩
    obtain ⟨e2, -⟩ := hV
    replace D_cn := D_cn.ext hk
    have e2 : sl a26 2 = (.int .i64 (0)) := e2
    replace own_bo := own_bo.ext hk
    replace own_bm := own_bm.ext hk
    replace kw := kw.x hk
    clear hR hk hg hP
    refine tail_nil (hK25 _ _ ?_)
    refine wp_ret ?_
    refine (show bodyPost Try.prog Try.f32 _ .ret _ _ from ret1 rfl zz26 e2 ⟨_, rfl, kw, ?_⟩)
    rw [hf]

end Go.Proofs.Ytnobijngkpflcaa
