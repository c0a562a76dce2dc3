import Derived.Test.YtipdogbeoflkoaaH4
namespace Go.Proofs.Ytipdogbeoflkoaa
open Go.Eng
set_option maxRecDepth 100000 in
theorem Texts_ok (x : V) (A : As) (e : Int) (hA : AB 1000000 A) (hx : x.wt ≤ 1073741824) (hxt : x.t.size ≤ maxLen) (name : ByteArray) (most : Int) (w : World) (S : BSet) (cn ci : Value) (bo bm : Nat) (hS : ∀ b o, S b o → Cln o) (hM : ∀ b ∈ [bo, bm], ∀ o, ¬ S b o) (hne : bo ≠ bm) (hv : Rd w S (strsD x.ns) cn) (hu : Rd w S (valsD x.xs) ci) (own_bo : Own w bo [.int .u8 x.k, .int .i64 x.n, .string x.t, cn, ci, .map (some bm), .int .i64 (e)] 69) (own_bm : OwnM w bm A) : Calls Try.prog 37 #[.pointer (some ⟨bo, 0, none⟩), .string name, .int .i64 most] w (RetL w [bo, bm] fun u W => Rd W (Fr w) (strsD (if tkB x e name (textsE most) then textsL most (getV x name) else [])) u ∧ Own W bo [.int .u8 x.k, .int .i64 x.n, .string x.t, cn, ci, .map (some bm), .int .i64 (tkE x e name (textsE most))] 69 ∧ OwnM W bm (tkA x A e name (textsE most))) := by
  obtain ⟨cna, cnc, ev, D_cn⟩ := rdS_out (rd_argM (M := [bo, bm]) hv hM)
  subst ev
  obtain ⟨cia, cic, ev, D_ci⟩ := rdVs_out (rd_argM (M := [bo, bm]) hu hM)
  subst ev
  refine enter Try.func37 rfl Try.ntmps37 (Nat.le_of_ble_eq_true rfl) fun a0 hsz0 hdf0 harg => ?_
  have e0 : sl a0 0 = (.pointer (some ⟨bo, 0, none⟩)) := harg 0 (Nat.le_of_ble_eq_true rfl)
  have e1 : sl a0 1 = (.string (name)) := harg 1 (Nat.le_of_ble_eq_true rfl)
  have e2 : sl a0 2 = (.int .i64 (most)) := harg 2 (Nat.le_of_ble_eq_true rfl)
  have kw := Keeps.refl (fun k => k ∉ [bo, bm]) w
  clear harg
  refine wp_seq_k fun K1 hK1 => ?_
  refine wp_reg All mixed hsz0 hdf0 st_tr trivial ?_
  refine Chain.boxOp (v := (.int .i64 (most))) (Has.base rfl e2) ?_
  refine Chain.op (φ := Is (.slice none 0 0)) (st_is _) (sp_assign Has.cst) ?_
  refine Chain.done ⟨by kernel_rfl, fun a2 g W2 hsz2 hdf2 hk hg henv hrest hpsi => ?_⟩
  obtain ⟨-, ⟨b5_2, e5, hb5, own_b5_2⟩, -⟩ := henv
  have lo_b5_2 : w.heap.size ≤ b5_2 := Nat.le_trans kw.size (hg.lo _ _ hb5)
  have ne_bo_b5_2 : bo ≠ b5_2 := Nat.ne_of_lt (Nat.lt_of_lt_of_le own_bo.lt (hg.lo _ _ hb5))
  have ne_bm_b5_2 : bm ≠ b5_2 := Nat.ne_of_lt (Nat.lt_of_lt_of_le own_bm.lt (hg.lo _ _ hb5))
  have own_b5_2 : Own W2 b5_2 [(.int .i64 (most))] 3 := own_b5_2
  replace e0 := (hrest 0 rfl).trans e0
  replace e1 := (hrest 1 rfl).trans e1
  replace D_cn := sa_more D_cn hk [b5_2] (in_cons (hg.lo _ _ hb5) in_nil)
  replace D_ci := sa_more D_ci hk [b5_2] (in_cons (hg.lo _ _ hb5) in_nil)
  replace own_bo := own_bo.ext hk
  replace own_bm := own_bm.ext hk
  replace kw := kw.trans (.of_ext hk)
  clear hrest hk hg hpsi hb5
  refine tail_nil (hK1 _ _ ?_)
  refine wp_seq_k fun K3 hK3 => ?_
  refine wp_reg (fun k => k ∉ [bo, bm]) (Ψ := fun W => Own W bo [(.int .u8 (x.k)), (.int .i64 (x.n)), (.string (x.t)), (.slice cna (x.ns.length) cnc), (.slice cia (x.xs.length) cic), (.map (some bm)), (.int .i64 (e))] 69 ∧ OwnM W bm (A)) mixed hsz2 hdf2 (stE_and stE_own stE_ownM) ⟨own_bo, own_bm⟩ ?_
  refine Chain.op (φ := Is (.pointer (some ⟨bo, 0, none⟩))) (st_is _) (sp_move (Has.base rfl e0)) ?_
  refine Chain.op (φ := Is (.string (name))) (st_is _) (sp_move (Has.base rfl e1)) ?_
  refine Chain.op (φ := Is (.func (.func 54) #[] #[(.pointer (some ⟨b5_2, 0, none⟩))])) (st_is _) (sp_mkF1 (Has.base rfl e5)) ?_
  refine Chain.callL3 (φ1 := Is (.pointer (some ⟨bo, 0, none⟩))) (φ2 := Is (.string (name))) (φ3 := Is (.func (.func 54) #[] #[(.pointer (some ⟨b5_2, 0, none⟩))])) (φ := IsD (Fr W2) (strsD (if tkB x e name (textsE most) then textsL most (getV x name) else []))) (Ψ' := fun W => Own W bo [(.int .u8 (x.k)), (.int .i64 (x.n)), (.string (x.t)), (.slice cna (x.ns.length) cnc), (.slice cia (x.xs.length) cic), (.map (some bm)), (.int .i64 (tkE x e name (textsE most)))] 69 ∧ OwnM W bm (tkA x A e name (textsE most))) ent53 (Has.loc rfl) (Has.loc rfl) (Has.loc rfl) (st_d (sub_frnl (in_cons own_bo.lt (in_cons own_bm.lt in_nil)))) (stE_and stE_own stE_ownM) (fun g u1 u2 u3 W hk hg h1 h2 h3 hpsi => by have h1 : u1 = _ := h1; subst u1; have h2 : u2 = _ := h2; subst u2; have h3 : u3 = _ := h3; subst u3; exact (takeS_ok (x) (A) (e) hA hx hxt name 54 #[(.pointer (some ⟨b5_2, 0, none⟩))] (textsE most) (textsL most) W _ _ _ _ _ (sa_cln hS) (sa_notin (by simp)) hne (sa_keepL D_cn hk (by simp)) (sa_keepL D_ci hk (by simp)) hpsi.1 hpsi.2 ent54 (fun W2 hk2 y v hy hv2 => texts1_ok y most hy W2 _ v b5_2 hv2 (own_keepL (own_keepL own_b5_2 hk (by simp [ne_bo_b5_2.symm, ne_bm_b5_2.symm])) hk2 (by simp [ne_bo_b5_2.symm, ne_bm_b5_2.symm])))).mono (fun _ _ ⟨v, h1, h2, h3, h4⟩ => ⟨v, h1, h2, fresh_d hk hg h3, h4⟩)) ?_
  refine Chain.op (φ := IsD (Fr W2) (strsD (if tkB x e name (textsE most) then textsL most (getV x name) else []))) (st_d (sub_frnl (in_cons own_bo.lt (in_cons own_bm.lt in_nil)))) (sp_assign (Has.loc rfl)) ?_
  refine Chain.done ⟨by kernel_rfl, fun a4 g W4 hsz4 hdf4 hk hg henv hrest hpsi => ?_⟩
  obtain ⟨e6, -, -, -, -, -⟩ := henv
  obtain ⟨v6_4, ev⟩ : ∃ v, sl a4 6 = v := ⟨_, rfl⟩
  rw [ev] at e6
  have D_v6_4 : Rd W4 (SF w [b5_2, bo, bm]) (strsD (if tkB x e name (textsE most) then textsL most (getV x name) else [])) v6_4 := fr_end (M := [b5_2, bo, bm]) e6 kw [] in_nil (in_cons own_b5_2.lt (in_cons own_bo.lt (in_cons own_bm.lt in_nil)))
  replace e6 := ev; clear ev
  obtain ⟨v6_4a, v6_4c, ev, D2⟩ := rdS_out D_v6_4
  subst ev; replace D_v6_4 := D2; clear D2
  replace D_cn := sa_keepL D_cn hk (by simp)
  replace D_ci := sa_keepL D_ci hk (by simp)
  replace own_b5_2 := own_keepL own_b5_2 hk (by simp [ne_bo_b5_2.symm, ne_bm_b5_2.symm])
  obtain ⟨own_bo, own_bm⟩ := hpsi
  replace own_bo : Own W4 bo [(.int .u8 (x.k)), (.int .i64 (x.n)), (.string (x.t)), (.slice cna (x.ns.length) cnc), (.slice cia (x.xs.length) cic), (.map (some bm)), (.int .i64 (tkE x e name (textsE most)))] 69 := own_bo
  replace own_bm : OwnM W4 bm (tkA x A e name (textsE most)) := own_bm
  replace kw := keeps_L kw hk (in_cons (.inr (by simp)) (in_cons (.inr (by simp)) in_nil))
  clear hrest hk hg
  refine tail_nil (hK3 _ _ ?_)
  refine wp_ret ?_
  refine (show bodyPost Try.prog Try.f37 _ .ret _ _ from ret1 rfl hdf4 e6 ⟨_, rfl, kw, ?_⟩)
  exact ⟨sf_fr D_v6_4, own_bo, own_bm⟩

set_option maxRecDepth 100000 in
theorem Num_ok (x : V) (A : As) (e : Int) (hA : AB 1000000 A) (hx : x.wt ≤ 1073741824) (hxt : x.t.size ≤ maxLen) (name : ByteArray) (lo hi : Int) (w : World) (S : BSet) (cn ci : Value) (bo bm : Nat) (hS : ∀ b o, S b o → Cln o) (hM : ∀ b ∈ [bo, bm], ∀ o, ¬ S b o) (hne : bo ≠ bm) (hv : Rd w S (strsD x.ns) cn) (hu : Rd w S (valsD x.xs) ci) (own_bo : Own w bo [.int .u8 x.k, .int .i64 x.n, .string x.t, cn, ci, .map (some bm), .int .i64 (e)] 69) (own_bm : OwnM w bm A) : Calls Try.prog 38 #[.pointer (some ⟨bo, 0, none⟩), .string name, .int .i64 lo, .int .i64 hi] w (RetL w [bo, bm] fun u W => u = .int .i64 (if tkB x e name (numE lo hi) then numV lo hi (getV x name) else 0) ∧ Own W bo [.int .u8 x.k, .int .i64 x.n, .string x.t, cn, ci, .map (some bm), .int .i64 (tkE x e name (numE lo hi))] 69 ∧ OwnM W bm (tkA x A e name (numE lo hi))) := by
  obtain ⟨cna, cnc, ev, D_cn⟩ := rdS_out (rd_argM (M := [bo, bm]) hv hM)
  subst ev
  obtain ⟨cia, cic, ev, D_ci⟩ := rdVs_out (rd_argM (M := [bo, bm]) hu hM)
  subst ev
  refine enter Try.func38 rfl Try.ntmps38 (Nat.le_of_ble_eq_true rfl) fun a0 hsz0 hdf0 harg => ?_
  have e0 : sl a0 0 = (.pointer (some ⟨bo, 0, none⟩)) := harg 0 (Nat.le_of_ble_eq_true rfl)
  have e1 : sl a0 1 = (.string (name)) := harg 1 (Nat.le_of_ble_eq_true rfl)
  have e2 : sl a0 2 = (.int .i64 (lo)) := harg 2 (Nat.le_of_ble_eq_true rfl)
  have e3 : sl a0 3 = (.int .i64 (hi)) := harg 3 (Nat.le_of_ble_eq_true rfl)
  have kw := Keeps.refl (fun k => k ∉ [bo, bm]) w
  clear harg
  refine wp_seq_k fun K1 hK1 => ?_
  refine wp_reg All mixed hsz0 hdf0 st_tr trivial ?_
  refine Chain.boxOp (v := (.int .i64 (lo))) (Has.base rfl e2) ?_
  refine Chain.boxOp (v := (.int .i64 (hi))) (Has.base rfl e3) ?_
  refine Chain.op (φ := Is (.int .i64 (0))) (st_is _) (sp_assign Has.cst) ?_
  refine Chain.done ⟨by kernel_rfl, fun a2 g W2 hsz2 hdf2 hk hg henv hrest hpsi => ?_⟩
  obtain ⟨-, ⟨b7_2, e7, hb7, own_b7_2⟩, ⟨b6_2, e6, hb6, own_b6_2⟩, -⟩ := henv
  have lo_b7_2 : w.heap.size ≤ b7_2 := Nat.le_trans kw.size (hg.lo _ _ hb7)
  have ne_bo_b7_2 : bo ≠ b7_2 := Nat.ne_of_lt (Nat.lt_of_lt_of_le own_bo.lt (hg.lo _ _ hb7))
  have ne_bm_b7_2 : bm ≠ b7_2 := Nat.ne_of_lt (Nat.lt_of_lt_of_le own_bm.lt (hg.lo _ _ hb7))
  have own_b7_2 : Own W2 b7_2 [(.int .i64 (hi))] 2 := own_b7_2
  have lo_b6_2 : w.heap.size ≤ b6_2 := Nat.le_trans kw.size (hg.lo _ _ hb6)
  have ne_bo_b6_2 : bo ≠ b6_2 := Nat.ne_of_lt (Nat.lt_of_lt_of_le own_bo.lt (hg.lo _ _ hb6))
  have ne_bm_b6_2 : bm ≠ b6_2 := Nat.ne_of_lt (Nat.lt_of_lt_of_le own_bm.lt (hg.lo _ _ hb6))
  have own_b6_2 : Own W2 b6_2 [(.int .i64 (lo))] 2 := own_b6_2
  have ne_b7_2_b6_2 : b7_2 ≠ b6_2 := fun h => by have := hg.inj _ _ _ hb7 (h ▸ hb6); cases this
  replace e0 := (hrest 0 rfl).trans e0
  replace e1 := (hrest 1 rfl).trans e1
  replace D_cn := sa_more D_cn hk [b7_2, b6_2] (in_cons (hg.lo _ _ hb7) (in_cons (hg.lo _ _ hb6) in_nil))
  replace D_ci := sa_more D_ci hk [b7_2, b6_2] (in_cons (hg.lo _ _ hb7) (in_cons (hg.lo _ _ hb6) in_nil))
  replace own_bo := own_bo.ext hk
  replace own_bm := own_bm.ext hk
  replace kw := kw.trans (.of_ext hk)
  clear hrest hk hg hpsi hb7 hb6
  refine tail_nil (hK1 _ _ ?_)
  refine wp_seq_k fun K3 hK3 => ?_
  refine wp_reg (fun k => k ∉ [bo, bm]) (Ψ := fun W => Own W bo [(.int .u8 (x.k)), (.int .i64 (x.n)), (.string (x.t)), (.slice cna (x.ns.length) cnc), (.slice cia (x.xs.length) cic), (.map (some bm)), (.int .i64 (e))] 69 ∧ OwnM W bm (A)) mixed hsz2 hdf2 (stE_and stE_own stE_ownM) ⟨own_bo, own_bm⟩ ?_
  refine Chain.op (φ := Is (.pointer (some ⟨bo, 0, none⟩))) (st_is _) (sp_move (Has.base rfl e0)) ?_
  refine Chain.op (φ := Is (.string (name))) (st_is _) (sp_move (Has.base rfl e1)) ?_
  refine Chain.op (φ := Is (.func (.func 57) #[] #[(.pointer (some ⟨b6_2, 0, none⟩)), (.pointer (some ⟨b7_2, 0, none⟩))])) (st_is _) (sp_mkF2 (Has.base rfl e6) (Has.base rfl e7)) ?_
  refine Chain.callL3 (φ1 := Is (.pointer (some ⟨bo, 0, none⟩))) (φ2 := Is (.string (name))) (φ3 := Is (.func (.func 57) #[] #[(.pointer (some ⟨b6_2, 0, none⟩)), (.pointer (some ⟨b7_2, 0, none⟩))])) (φ := Is (.int .i64 (if tkB x e name (numE lo hi) then numV lo hi (getV x name) else 0))) (Ψ' := fun W => Own W bo [(.int .u8 (x.k)), (.int .i64 (x.n)), (.string (x.t)), (.slice cna (x.ns.length) cnc), (.slice cia (x.xs.length) cic), (.map (some bm)), (.int .i64 (tkE x e name (numE lo hi)))] 69 ∧ OwnM W bm (tkA x A e name (numE lo hi))) ent56 (Has.loc rfl) (Has.loc rfl) (Has.loc rfl) (st_is _) (stE_and stE_own stE_ownM) (fun g u1 u2 u3 W hk hg h1 h2 h3 hpsi => by have h1 : u1 = _ := h1; subst u1; have h2 : u2 = _ := h2; subst u2; have h3 : u3 = _ := h3; subst u3; exact (takeI_ok (x) (A) (e) hA hx hxt name 57 #[(.pointer (some ⟨b6_2, 0, none⟩)), (.pointer (some ⟨b7_2, 0, none⟩))] (numE lo hi) (numV lo hi) W _ _ _ _ _ (sa_cln hS) (sa_notin (by simp)) hne (sa_keepL D_cn hk (by simp)) (sa_keepL D_ci hk (by simp)) hpsi.1 hpsi.2 ent57 (fun W2 hk2 y v hy hv2 => num1_ok y lo hi W2 _ v b6_2 b7_2 hv2 (own_keepL (own_keepL own_b6_2 hk (by simp [ne_bo_b6_2.symm, ne_bm_b6_2.symm])) hk2 (by simp [ne_bo_b6_2.symm, ne_bm_b6_2.symm])) (own_keepL (own_keepL own_b7_2 hk (by simp [ne_bo_b7_2.symm, ne_bm_b7_2.symm])) hk2 (by simp [ne_bo_b7_2.symm, ne_bm_b7_2.symm]))))) ?_
  refine Chain.op (φ := Is (.int .i64 (if tkB x e name (numE lo hi) then numV lo hi (getV x name) else 0))) (st_is _) (sp_assign (Has.loc rfl)) ?_
  refine Chain.done ⟨by kernel_rfl, fun a4 g W4 hsz4 hdf4 hk hg henv hrest hpsi => ?_⟩
  obtain ⟨e8, -, -, -, -, -⟩ := henv
  have e8 : sl a4 8 = (.int .i64 (if tkB x e name (numE lo hi) then numV lo hi (getV x name) else 0)) := e8
  replace D_cn := sa_keepL D_cn hk (by simp)
  replace D_ci := sa_keepL D_ci hk (by simp)
  replace own_b7_2 := own_keepL own_b7_2 hk (by simp [ne_bo_b7_2.symm, ne_bm_b7_2.symm])
  replace own_b6_2 := own_keepL own_b6_2 hk (by simp [ne_bo_b6_2.symm, ne_bm_b6_2.symm])
  obtain ⟨own_bo, own_bm⟩ := hpsi
  replace own_bo : Own W4 bo [(.int .u8 (x.k)), (.int .i64 (x.n)), (.string (x.t)), (.slice cna (x.ns.length) cnc), (.slice cia (x.xs.length) cic), (.map (some bm)), (.int .i64 (tkE x e name (numE lo hi)))] 69 := own_bo
  replace own_bm : OwnM W4 bm (tkA x A e name (numE lo hi)) := own_bm
  replace kw := keeps_L kw hk (in_cons (.inr (by simp)) (in_cons (.inr (by simp)) in_nil))
  clear hrest hk hg
  refine tail_nil (hK3 _ _ ?_)
  refine wp_ret ?_
  refine (show bodyPost Try.prog Try.f38 _ .ret _ _ from ret1 rfl hdf4 e8 ⟨_, rfl, kw, ?_⟩)
  exact ⟨rfl, own_bo, own_bm⟩

set_option maxRecDepth 100000 in
theorem Done_ok (x : V) (A : As) (e : Int) (w : World) (S : BSet) (cn ci : Value) (bo bm : Nat) (hv : Rd w S (strsD x.ns) cn) (own_bo : Own w bo [.int .u8 x.k, .int .i64 x.n, .string x.t, cn, ci, .map (some bm), .int .i64 (e)] 69) (own_bm : OwnM w bm A) : Calls Try.prog 33 #[.pointer (some ⟨bo, 0, none⟩)] w (Ret w fun u _ => u = .int .i64 (doneE x A e)) := by
  have hmn := rd_lenS hv
  simp only [maxLen] at hmn
  obtain ⟨cna, cnc, ev, D_cn⟩ := rdS_out (rd_arg hv)
  subst ev
  refine enter Try.func33 rfl Try.ntmps33 (Nat.le_of_ble_eq_true rfl) fun a0 hsz0 hdf0 harg => ?_
  have e0 : sl a0 0 = (.pointer (some ⟨bo, 0, none⟩)) := harg 0 (Nat.le_of_ble_eq_true rfl)
  have kw := Keeps.refl All w
  clear harg
  refine wp_seq_k fun K1 hK1 => ?_
  refine wp_reg All mixed hsz0 hdf0 st_tr trivial ?_
  refine Chain.op (φ := Is (.int .i64 (0))) (st_is _) (sp_assign Has.cst) ?_
  refine Chain.done ⟨by kernel_rfl, fun a2 g W2 hsz2 hdf2 hk hg henv hrest hpsi => ?_⟩
  obtain ⟨-, -⟩ := henv
  replace e0 := (hrest 0 rfl).trans e0
  replace D_cn := D_cn.ext hk
  replace own_bo := own_bo.ext hk
  replace own_bm := own_bm.ext hk
  replace kw := kw.trans (.of_ext hk)
  clear hrest hk hg hpsi
  refine tail_nil (hK1 _ _ ?_)
  refine wp_seq_k fun K3 hK3 => ?_
  refine wp_seq_k fun K4 hK4 => ?_
  refine wp_reg All mixed hsz2 hdf2 st_tr trivial ?_
  refine Chain.op (φ := Is (.pointer (some ⟨bo, 0, none⟩))) (st_is _) (sp_move (Has.base rfl e0)) ?_
  refine Chain.op (φ := Is (.int .i64 (errK x.k e))) (st_is _) (sp_call1 (φ1 := Is (.pointer (some ⟨bo, 0, none⟩))) ent19 (Has.loc rfl) (fun g u1 W hk hgk h1 => by have h1 : u1 = _ := h1; subst u1; exact Err_ok _ _ _ _ _ _ _ W _ (own_bo.ext hk))) ?_
  refine Chain.op (φ := Is (.int .i64 (errK x.k e))) (st_is _) (sp_assign (Has.loc rfl)) ?_
  refine Chain.done ⟨by kernel_rfl, fun a5 g W5 hsz5 hdf5 hk hg henv hrest hpsi => ?_⟩
  obtain ⟨e3, -, -, -⟩ := henv
  replace e0 := (hrest 0 rfl).trans e0
  replace D_cn := D_cn.ext hk
  have e3 : sl a5 3 = (.int .i64 (errK x.k e)) := e3
  replace own_bo := own_bo.ext hk
  replace own_bm := own_bm.ext hk
  replace kw := kw.trans (.of_ext hk)
  clear hrest hk hg hpsi
  refine tail_nil (hK4 _ _ ?_)
  refine wp_seq_k fun K6 hK6 => ?_
  refine wp_reg All mixed hsz5 hdf5 st_tr trivial ?_
  refine Chain.op (φ := Is (.int .i64 (errK x.k e))) (st_is _) (sp_move (Has.base rfl e3)) ?_
  refine Chain.op (φ := Is (.bool ((errK x.k e : Int) != (0 : Int)))) (st_is _) (sp_neq (Has.loc rfl) Has.cst) ?_
  refine Chain.done ⟨by kernel_rfl, fun a7 g W7 hsz7 hdf7 hk hg henv hrest hpsi => ?_⟩
  obtain ⟨e9, -, -⟩ := henv
  replace e0 := (hrest 0 rfl).trans e0
  replace e3 := (hrest 3 rfl).trans e3
  replace D_cn := D_cn.ext hk
  have e9 : sl a7 9 = (.bool ((errK x.k e : Int) != (0 : Int))) := e9
  replace own_bo := own_bo.ext hk
  replace own_bm := own_bm.ext hk
  replace kw := kw.trans (.of_ext hk)
  clear hrest hk hg hpsi
  refine tail_nil (hK6 _ _ ?_)
  refine wp_cond_split e9 (fun hc => ?_) (fun hc => ?_)
  · -- T: (errK x.k e : Int) != (0 : Int)
    have hE : errK x.k e ≠ 0 := by simpa using hc
    have hf : doneE x A e = errK x.k e := by rw [doneE, if_pos hE]
    refine wp_seq_k fun K8 hK8 => ?_
    refine wp_reg All mixed hsz7 hdf7 st_tr trivial ?_
    refine Chain.op (φ := Is (.int .i64 (errK x.k e))) (st_is _) (sp_move (Has.base rfl e3)) ?_
    refine Chain.op (φ := Is (.int .i64 (errK x.k e))) (st_is _) (sp_assign (Has.loc rfl)) ?_
    refine Chain.done ⟨by kernel_rfl, fun a9 g W9 hsz9 hdf9 hk hg henv hrest hpsi => ?_⟩
    obtain ⟨e2, -, -⟩ := henv
    replace D_cn := D_cn.ext hk
    have e2 : sl a9 2 = (.int .i64 (errK x.k e)) := e2
    replace own_bo := own_bo.ext hk
    replace own_bm := own_bm.ext hk
    replace kw := kw.trans (.of_ext hk)
    clear hrest hk hg hpsi
    refine tail_nil (hK8 _ _ ?_)
    refine wp_ret ?_
    refine (show bodyPost Try.prog Try.f33 _ .ret _ _ from ret1 rfl hdf9 e2 ⟨_, rfl, kw, ?_⟩)
    rw [hf]
  · -- E: (errK x.k e : Int) != (0 : Int)
    have hE : errK x.k e = 0 := by simpa using hc
    refine wp_skip (hK3 _ _ ?_)
    refine wp_seq_k fun K10 hK10 => ?_
    refine wp_seq_k fun K11 hK11 => ?_
    refine wp_reg All mixed hsz7 hdf7 st_tr trivial ?_
    refine Chain.op (φ := Is (.pointer (some ⟨bo, 0, none⟩))) (st_is _) (sp_move (Has.base rfl e0)) ?_
    refine Chain.op (φ := Is (.pointer (some ⟨bo, 0, none⟩))) (st_is _) (sp_nilP (Has.loc rfl)) ?_
    refine Chain.op (φ := Is (.pointer (some ⟨bo, 0, none⟩))) (st_is _) (sp_fieldO (Has.loc rfl) Try.underlying69 rfl sz33 rfl) ?_
    refine Chain.op (φ := Is (.pointer (some ⟨bo, 3, none⟩))) (st_is _) (sp_fieldO (Has.loc rfl) Try.underlying33 rfl sz23 rfl) ?_
    refine Chain.op (φ := Is (.slice cna (x.ns.length) cnc)) (st_is _) (sp_loadO (v := (.slice cna (x.ns.length) cnc)) (Has.loc rfl) own_bo trivial agg23 sz23 (Nat.le_of_ble_eq_true rfl) (fun h => by first | rfl | cases h) rfl) ?_
    refine Chain.op (φ := Is (.int .i64 (x.ns.length))) (st_is _) (sp_lenSs Try.underlying23 ((Has.loc rfl).dat D_cn sub_all)) ?_
    refine Chain.op (φ := Is (.int .i64 (0))) (st_is _) (sp_move Has.cst) ?_
    refine Chain.done ⟨by kernel_rfl, fun a12 g W12 hsz12 hdf12 hk hg henv hrest hpsi => ?_⟩
    obtain ⟨e17, e16, e15, -, -, -, -, -⟩ := henv
    replace e0 := (hrest 0 rfl).trans e0
    replace D_cn := D_cn.ext hk
    have e15 : sl a12 15 = (.slice cna (x.ns.length) cnc) := e15
    have e16 : sl a12 16 = (.int .i64 (x.ns.length)) := e16
    have e17 : sl a12 17 = (.int .i64 (0)) := e17
    replace own_bo := own_bo.ext hk
    replace own_bm := own_bm.ext hk
    replace kw := kw.trans (.of_ext hk)
    clear hrest hk hg hpsi
    refine tail_nil (hK11 _ _ ?_)
    refine wp_block ?_
    refine wp_for (x.ns.length) (fun k a W => a.tmps.size = 29 ∧ a.defers = [] ∧ Keeps All w W ∧ sl a 0 = (.pointer (some ⟨bo, 0, none⟩)) ∧ sl a 15 = (.slice cna (x.ns.length) cnc) ∧ sl a 16 = (.int .i64 (x.ns.length)) ∧ sl a 17 = (.int .i64 ((k : Nat))) ∧ Own W bo [(.int .u8 (x.k)), (.int .i64 (x.n)), (.string (x.t)), (.slice cna (x.ns.length) cnc), ci, (.map (some bm)), (.int .i64 (e))] 69 ∧ OwnM W bm (A) ∧ Rd W (SA w S []) (strsD (x.ns)) (.slice cna (x.ns.length) cnc) ∧ (∀ i (h : i < x.ns.length), i < k → mget A x.ns[i] ≠ 0)) ⟨hsz12, hdf12, kw, e0, e15, e16, (e17.trans (congrArg (Value.int .i64) (rfl))), own_bo, own_bm, D_cn, fun i h hi => absurd hi (by omega)⟩ ?_
    clear kw e0 e15 e16 e17 own_bo own_bm D_cn
    rintro k a13 W13 hkk ⟨hsz13, hdf13, kw, e0, e15, e16, e17, own_bo, own_bm, D_cn, hinv⟩
    refine wp_seq_k fun K14 hK14 => ?_
    refine wp_reg All mixed hsz13 hdf13 st_tr trivial ?_
    refine Chain.op (φ := Is (.bool (decide (((k : Nat) : Int) < (x.ns.length : Int))))) (st_is _) (sp_lss (Has.base rfl e17) (Has.base rfl e16)) ?_
    refine Chain.done ⟨by kernel_rfl, fun a15 g W15 hsz15 hdf15 hk hg henv hrest hpsi => ?_⟩
    obtain ⟨e18, -⟩ := henv
    replace e0 := (hrest 0 rfl).trans e0
    replace e15 := (hrest 15 rfl).trans e15
    replace e16 := (hrest 16 rfl).trans e16
    replace e17 := (hrest 17 rfl).trans e17
    replace D_cn := D_cn.ext hk
    have e18 : sl a15 18 = (.bool (decide (((k : Nat) : Int) < (x.ns.length : Int)))) := e18
    replace own_bo := own_bo.ext hk
    replace own_bm := own_bm.ext hk
    replace kw := kw.trans (.of_ext hk)
    clear hrest hk hg hpsi
    refine tail_nil (hK14 _ _ ?_)
    refine wp_seq_k fun K16 hK16 => ?_
    refine wp_cond_split e18 (fun hc => ?_) (fun hc => ?_)
    · -- T: decide (((k : Nat) : Int) < (x.ns.length : Int))
      have hlt : k < x.ns.length := by simpa using hc
      refine wp_skip (hK16 _ _ ?_)
      refine wp_seq_k fun K17 hK17 => ?_
      refine wp_block ?_
      refine wp_seq_k fun K18 hK18 => ?_
      refine wp_reg All mixed hsz15 hdf15 st_tr trivial ?_
      refine Chain.op (φ := IsR (SA w S []) (D.str (x.ns[k]'hlt))) (st_r sub_all) (sp_indexS (i := k) ((Has.base rfl e15).dat D_cn sub_all) (Has.base rfl e17) Try.underlying23 sz9 rfl hlt) ?_
      refine Chain.op (φ := Is (.string (x.ns[k]'hlt))) (st_is _) (sp_loadStr (Has.loc rfl) agg9 sz9) ?_
      refine Chain.op (φ := Is (.string (x.ns[k]'hlt))) (st_is _) (sp_assign (Has.loc rfl)) ?_
      refine Chain.done ⟨by kernel_rfl, fun a19 g W19 hsz19 hdf19 hk hg henv hrest hpsi => ?_⟩
      obtain ⟨e5, -, -, -⟩ := henv
      replace e0 := (hrest 0 rfl).trans e0
      replace e15 := (hrest 15 rfl).trans e15
      replace e16 := (hrest 16 rfl).trans e16
      replace e17 := (hrest 17 rfl).trans e17
      replace D_cn := D_cn.ext hk
      have e5 : sl a19 5 = (.string (x.ns[k]'hlt)) := e5
      replace own_bo := own_bo.ext hk
      replace own_bm := own_bm.ext hk
      replace kw := kw.trans (.of_ext hk)
      clear hrest hk hg hpsi
      refine tail_nil (hK18 _ _ ?_)
      refine wp_seq_k fun K20 hK20 => ?_
      refine wp_reg All mixed hsz19 hdf19 st_tr trivial ?_
      refine Chain.op (φ := Is (.pointer (some ⟨bo, 0, none⟩))) (st_is _) (sp_move (Has.base rfl e0)) ?_
      refine Chain.op (φ := Is (.pointer (some ⟨bo, 0, none⟩))) (st_is _) (sp_nilP (Has.loc rfl)) ?_
      refine Chain.op (φ := Is (.pointer (some ⟨bo, 5, none⟩))) (st_is _) (sp_fieldO (Has.loc rfl) Try.underlying69 rfl sz67 rfl) ?_
      refine Chain.op (φ := Is (.map (some bm))) (st_is _) (sp_loadO (v := (.map (some bm))) (Has.loc rfl) own_bo trivial agg67 sz67 (Nat.le_of_ble_eq_true rfl) (fun h => by first | rfl | cases h) rfl) ?_
      refine Chain.op (φ := Is (.string (x.ns[k]'hlt))) (st_is _) (sp_move (Has.base rfl e5)) ?_
      refine Chain.op (φ := Is (.int .i64 (mget A (x.ns[k]'hlt)))) (st_is _) (sp_lookup Try.underlying67 Try.underlying9 z3 (Has.loc rfl) (Has.loc rfl) own_bm trivial) ?_
      refine Chain.op (φ := Is (.bool ((mget A (x.ns[k]'hlt) : Int) == (0 : Int)))) (st_is _) (sp_eql (Has.loc rfl) Has.cst) ?_
      refine Chain.done ⟨by kernel_rfl, fun a21 g W21 hsz21 hdf21 hk hg henv hrest hpsi => ?_⟩
      obtain ⟨e27, -, -, -, -, -, -, -⟩ := henv
      replace e0 := (hrest 0 rfl).trans e0
      replace e15 := (hrest 15 rfl).trans e15
      replace e16 := (hrest 16 rfl).trans e16
      replace e17 := (hrest 17 rfl).trans e17
      replace D_cn := D_cn.ext hk
      have e27 : sl a21 27 = (.bool ((mget A (x.ns[k]'hlt) : Int) == (0 : Int))) := e27
      replace own_bo := own_bo.ext hk
      replace own_bm := own_bm.ext hk
      replace kw := kw.trans (.of_ext hk)
      clear hrest hk hg hpsi
      refine tail_nil (hK20 _ _ ?_)
      refine wp_cond_split e27 (fun hc => ?_) (fun hc => ?_)
      · -- T: (mget A (x.ns[k]'hlt) : Int) == (0 : Int)
        have h0 : mget A x.ns[k] = 0 := by simpa using hc
        have hf : doneE x A e = 11 := by rw [doneE, if_neg (by simp [hE]), done_false hlt h0]; rfl
        refine wp_seq_k fun K22 hK22 => ?_
        refine wp_reg All mixed hsz21 hdf21 st_tr trivial ?_
        refine Chain.op (φ := Is (.int .i64 (11))) (st_is _) (sp_assign Has.cst) ?_
        refine Chain.done ⟨by kernel_rfl, fun a23 g W23 hsz23 hdf23 hk hg henv hrest hpsi => ?_⟩
        obtain ⟨e2, -⟩ := henv
        replace D_cn := D_cn.ext hk
        have e2 : sl a23 2 = (.int .i64 (11)) := e2
        replace own_bo := own_bo.ext hk
        replace own_bm := own_bm.ext hk
        replace kw := kw.trans (.of_ext hk)
        clear hrest hk hg hpsi
        refine tail_nil (hK22 _ _ ?_)
        refine wp_ret ?_
        refine (show bodyPost Try.prog Try.f33 _ .ret _ _ from ret1 rfl hdf23 e2 ⟨_, rfl, kw, ?_⟩)
        rw [hf]
      · -- E: (mget A (x.ns[k]'hlt) : Int) == (0 : Int)
        have h0 : mget A x.ns[k] ≠ 0 := by simpa using hc
        refine wp_skip (hK17 _ _ ?_)
        refine wp_reg All mixed hsz21 hdf21 st_tr trivial ?_
        refine Chain.op (φ := Is (.int .i64 (((k : Nat) : Int) + (1 : Int)))) (st_is _) (sp_add (Has.base rfl e17) Has.cst (i64_in (by omega))) ?_
        refine Chain.op (φ := Is (.int .i64 (((k : Nat) : Int) + (1 : Int)))) (st_is _) (sp_move (Has.loc rfl)) ?_
        refine Chain.done ⟨by kernel_rfl, fun a24 g W24 hsz24 hdf24 hk hg henv hrest hpsi => ?_⟩
        obtain ⟨e17, -, -⟩ := henv
        replace e0 := (hrest 0 rfl).trans e0
        replace e15 := (hrest 15 rfl).trans e15
        replace e16 := (hrest 16 rfl).trans e16
        replace D_cn := D_cn.ext hk
        have e17 : sl a24 17 = (.int .i64 (((k : Nat) : Int) + (1 : Int))) := e17
        replace own_bo := own_bo.ext hk
        replace own_bm := own_bm.ext hk
        replace kw := kw.trans (.of_ext hk)
        clear hrest hk hg hpsi
        exact tail_nil ⟨hlt, hsz24, hdf24, kw, e0, e15, e16, (e17.trans (congrArg (Value.int .i64) (by simp))), own_bo, own_bm, D_cn, fun i h hi => by rcases Nat.lt_succ_iff_lt_or_eq.1 hi with h1 | h1; exact hinv i h h1; subst h1; exact h0⟩
    · -- E: decide (((k : Nat) : Int) < (x.ns.length : Int))
      have hge0 : ¬ k < x.ns.length := by simpa using hc
      have hge : k = x.ns.length := by omega
      have hf : doneE x A e = 0 := by rw [doneE, if_neg (by simp [hE]), if_pos (done_true fun i hi => hinv i hi (by omega))]
      refine wp_exit (hK10 _ _ ?_)
      refine wp_seq_k fun K25 hK25 => ?_
      refine wp_reg All mixed hsz15 hdf15 st_tr trivial ?_
      refine Chain.op (φ := Is (.int .i64 (0))) (st_is _) (sp_assign Has.cst) ?_
      refine Chain.done ⟨by kernel_rfl, fun a26 g W26 hsz26 hdf26 hk hg henv hrest hpsi => ?_⟩
      obtain ⟨e2, -⟩ := henv
      replace D_cn := D_cn.ext hk
      have e2 : sl a26 2 = (.int .i64 (0)) := e2
      replace own_bo := own_bo.ext hk
      replace own_bm := own_bm.ext hk
      replace kw := kw.trans (.of_ext hk)
      clear hrest hk hg hpsi
      refine tail_nil (hK25 _ _ ?_)
      refine wp_ret ?_
      refine (show bodyPost Try.prog Try.f33 _ .ret _ _ from ret1 rfl hdf26 e2 ⟨_, rfl, kw, ?_⟩)
      rw [hf]

end Go.Proofs.Ytipdogbeoflkoaa
