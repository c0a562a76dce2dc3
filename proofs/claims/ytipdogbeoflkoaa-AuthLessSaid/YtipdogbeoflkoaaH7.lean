import Derived.Test.YtipdogbeoflkoaaH6
import Derived.Test.YtipdogbeoflkoaaPureL
namespace Go.Proofs.Ytipdogbeoflkoaa
open Go.Eng
set_option maxRecDepth 100000 in
theorem takeSD_ok (k : Nat) (n : Int) (t : ByteArray) (cn ci mv : Value) (e : Int) (hE : errK k e ≠ 0) (name : ByteArray) (fv : Value) (w : World) (bo : Nat) (own_bo : Own w bo [.int .u8 k, .int .i64 n, .string t, cn, ci, mv, .int .i64 e] 69) : Calls Try.prog 53 #[.pointer (some ⟨bo, 0, none⟩), .string name, fv] w (Ret w fun u _ => u = .slice none 0 0) := by
  refine enter Try.func53 rfl Try.ntmps53 (Nat.le_of_ble_eq_true rfl) fun a0 hsz0 hdf0 harg => ?_
  have e0 : sl a0 0 = (.pointer (some ⟨bo, 0, none⟩)) := harg 0 (Nat.le_of_ble_eq_true rfl)
  have e1 : sl a0 1 = (.string (name)) := harg 1 (Nat.le_of_ble_eq_true rfl)
  have e2 : sl a0 2 = fv := harg 2 (Nat.le_of_ble_eq_true rfl)
  have kw := Keeps.refl All w
  clear harg
  refine wp_seq_k fun K1 hK1 => ?_
  refine wp_reg All mixed hsz0 hdf0 st_tr trivial ?_
  refine Chain.op (φ := Is (.slice none 0 0)) (st_is _) (sp_assign Has.cst) ?_
  refine Chain.done ⟨by kernel_rfl, fun a2 g W2 hsz2 hdf2 hk hg henv hrest hpsi => ?_⟩
  obtain ⟨-, -⟩ := henv
  replace e0 := (hrest 0 rfl).trans e0
  replace e1 := (hrest 1 rfl).trans e1
  replace e2 := (hrest 2 rfl).trans e2
  replace own_bo := own_bo.ext hk
  replace kw := kw.trans (.of_ext hk)
  clear hrest hk hg hpsi
  refine tail_nil (hK1 _ _ ?_)
  refine wp_seq_k fun K3 hK3 => ?_
  refine wp_reg All mixed hsz2 hdf2 st_tr trivial ?_
  refine Chain.op (φ := Is (.slice none 0 0)) (st_is _) (sp_assign Has.cst) ?_
  refine Chain.done ⟨by kernel_rfl, fun a4 g W4 hsz4 hdf4 hk hg henv hrest hpsi => ?_⟩
  obtain ⟨e7, -⟩ := henv
  replace e0 := (hrest 0 rfl).trans e0
  replace e1 := (hrest 1 rfl).trans e1
  replace e2 := (hrest 2 rfl).trans e2
  have e7 : sl a4 7 = (.slice none 0 0) := e7
  replace own_bo := own_bo.ext hk
  replace kw := kw.trans (.of_ext hk)
  clear hrest hk hg hpsi
  refine tail_nil (hK3 _ _ ?_)
  refine wp_seq_k fun K5 hK5 => ?_
  refine wp_seq_k fun K6 hK6 => ?_
  refine wp_reg All mixed hsz4 hdf4 st_tr trivial ?_
  refine Chain.op (φ := Is (.pointer (some ⟨bo, 0, none⟩))) (st_is _) (sp_move (Has.base rfl e0)) ?_
  refine Chain.op (φ := Is (.int .i64 (errK (k : Nat) e))) (st_is _) (sp_call1 (φ1 := Is (.pointer (some ⟨bo, 0, none⟩))) ent19 (Has.loc rfl) (fun g u1 W hk hgk h1 => by have h1 : u1 = _ := h1; subst u1; exact Err_ok _ _ _ _ _ _ _ W _ (own_bo.ext hk))) ?_
  refine Chain.op (φ := Is (.bool ((errK (k : Nat) e : Int) != (0 : Int)))) (st_is _) (sp_neq (Has.loc rfl) Has.cst) ?_
  refine Chain.done ⟨by kernel_rfl, fun a7 g W7 hsz7 hdf7 hk hg henv hrest hpsi => ?_⟩
  obtain ⟨e14, -, -, -⟩ := henv
  replace e0 := (hrest 0 rfl).trans e0
  replace e1 := (hrest 1 rfl).trans e1
  replace e2 := (hrest 2 rfl).trans e2
  replace e7 := (hrest 7 rfl).trans e7
  have e14 : sl a7 14 = (.bool ((errK (k : Nat) e : Int) != (0 : Int))) := e14
  replace own_bo := own_bo.ext hk
  replace kw := kw.trans (.of_ext hk)
  clear hrest hk hg hpsi
  refine tail_nil (hK6 _ _ ?_)
  refine wp_cond_split e14 (fun hc => ?_) (fun hc => ?_)
  · -- T: (errK (k : Nat) e : Int) != (0 : Int)
    refine wp_seq_k fun K8 hK8 => ?_
    refine wp_reg All mixed hsz7 hdf7 st_tr trivial ?_
    refine Chain.op (φ := Is (.slice none 0 0)) (st_is _) (sp_move (Has.base rfl e7)) ?_
    refine Chain.op (φ := Is (.slice none 0 0)) (st_is _) (sp_assign (Has.loc rfl)) ?_
    refine Chain.done ⟨by kernel_rfl, fun a9 g W9 hsz9 hdf9 hk hg henv hrest hpsi => ?_⟩
    obtain ⟨e6, -, -⟩ := henv
    have e6 : sl a9 6 = (.slice none 0 0) := e6
    replace own_bo := own_bo.ext hk
    replace kw := kw.trans (.of_ext hk)
    clear hrest hk hg hpsi
    refine tail_nil (hK8 _ _ ?_)
    refine wp_ret ?_
    refine (show bodyPost Try.prog Try.f53 _ .ret _ _ from ret1 rfl hdf9 e6 ⟨_, rfl, kw, ?_⟩)
    exact rfl
  · -- E: (errK (k : Nat) e : Int) != (0 : Int)
    exfalso
    exact hE (by simpa using hc)

set_option maxRecDepth 100000 in
theorem takeID_ok (k : Nat) (n : Int) (t : ByteArray) (cn ci mv : Value) (e : Int) (hE : errK k e ≠ 0) (name : ByteArray) (fv : Value) (w : World) (bo : Nat) (own_bo : Own w bo [.int .u8 k, .int .i64 n, .string t, cn, ci, mv, .int .i64 e] 69) : Calls Try.prog 56 #[.pointer (some ⟨bo, 0, none⟩), .string name, fv] w (Ret w fun u _ => u = .int .i64 0) := by
  refine enter Try.func56 rfl Try.ntmps56 (Nat.le_of_ble_eq_true rfl) fun a0 hsz0 hdf0 harg => ?_
  have e0 : sl a0 0 = (.pointer (some ⟨bo, 0, none⟩)) := harg 0 (Nat.le_of_ble_eq_true rfl)
  have e1 : sl a0 1 = (.string (name)) := harg 1 (Nat.le_of_ble_eq_true rfl)
  have e2 : sl a0 2 = fv := harg 2 (Nat.le_of_ble_eq_true rfl)
  have kw := Keeps.refl All w
  clear harg
  refine wp_seq_k fun K1 hK1 => ?_
  refine wp_reg All mixed hsz0 hdf0 st_tr trivial ?_
  refine Chain.op (φ := Is (.int .i64 (0))) (st_is _) (sp_assign Has.cst) ?_
  refine Chain.done ⟨by kernel_rfl, fun a2 g W2 hsz2 hdf2 hk hg henv hrest hpsi => ?_⟩
  obtain ⟨-, -⟩ := henv
  replace e0 := (hrest 0 rfl).trans e0
  replace e1 := (hrest 1 rfl).trans e1
  replace e2 := (hrest 2 rfl).trans e2
  replace own_bo := own_bo.ext hk
  replace kw := kw.trans (.of_ext hk)
  clear hrest hk hg hpsi
  refine tail_nil (hK1 _ _ ?_)
  refine wp_seq_k fun K3 hK3 => ?_
  refine wp_reg All mixed hsz2 hdf2 st_tr trivial ?_
  refine Chain.op (φ := Is (.int .i64 (0))) (st_is _) (sp_assign Has.cst) ?_
  refine Chain.done ⟨by kernel_rfl, fun a4 g W4 hsz4 hdf4 hk hg henv hrest hpsi => ?_⟩
  obtain ⟨e7, -⟩ := henv
  replace e0 := (hrest 0 rfl).trans e0
  replace e1 := (hrest 1 rfl).trans e1
  replace e2 := (hrest 2 rfl).trans e2
  have e7 : sl a4 7 = (.int .i64 (0)) := e7
  replace own_bo := own_bo.ext hk
  replace kw := kw.trans (.of_ext hk)
  clear hrest hk hg hpsi
  refine tail_nil (hK3 _ _ ?_)
  refine wp_seq_k fun K5 hK5 => ?_
  refine wp_seq_k fun K6 hK6 => ?_
  refine wp_reg All mixed hsz4 hdf4 st_tr trivial ?_
  refine Chain.op (φ := Is (.pointer (some ⟨bo, 0, none⟩))) (st_is _) (sp_move (Has.base rfl e0)) ?_
  refine Chain.op (φ := Is (.int .i64 (errK (k : Nat) e))) (st_is _) (sp_call1 (φ1 := Is (.pointer (some ⟨bo, 0, none⟩))) ent19 (Has.loc rfl) (fun g u1 W hk hgk h1 => by have h1 : u1 = _ := h1; subst u1; exact Err_ok _ _ _ _ _ _ _ W _ (own_bo.ext hk))) ?_
  refine Chain.op (φ := Is (.bool ((errK (k : Nat) e : Int) != (0 : Int)))) (st_is _) (sp_neq (Has.loc rfl) Has.cst) ?_
  refine Chain.done ⟨by kernel_rfl, fun a7 g W7 hsz7 hdf7 hk hg henv hrest hpsi => ?_⟩
  obtain ⟨e14, -, -, -⟩ := henv
  replace e0 := (hrest 0 rfl).trans e0
  replace e1 := (hrest 1 rfl).trans e1
  replace e2 := (hrest 2 rfl).trans e2
  replace e7 := (hrest 7 rfl).trans e7
  have e14 : sl a7 14 = (.bool ((errK (k : Nat) e : Int) != (0 : Int))) := e14
  replace own_bo := own_bo.ext hk
  replace kw := kw.trans (.of_ext hk)
  clear hrest hk hg hpsi
  refine tail_nil (hK6 _ _ ?_)
  refine wp_cond_split e14 (fun hc => ?_) (fun hc => ?_)
  · -- T: (errK (k : Nat) e : Int) != (0 : Int)
    refine wp_seq_k fun K8 hK8 => ?_
    refine wp_reg All mixed hsz7 hdf7 st_tr trivial ?_
    refine Chain.op (φ := Is (.int .i64 (0))) (st_is _) (sp_move (Has.base rfl e7)) ?_
    refine Chain.op (φ := Is (.int .i64 (0))) (st_is _) (sp_assign (Has.loc rfl)) ?_
    refine Chain.done ⟨by kernel_rfl, fun a9 g W9 hsz9 hdf9 hk hg henv hrest hpsi => ?_⟩
    obtain ⟨e6, -, -⟩ := henv
    have e6 : sl a9 6 = (.int .i64 (0)) := e6
    replace own_bo := own_bo.ext hk
    replace kw := kw.trans (.of_ext hk)
    clear hrest hk hg hpsi
    refine tail_nil (hK8 _ _ ?_)
    refine wp_ret ?_
    refine (show bodyPost Try.prog Try.f56 _ .ret _ _ from ret1 rfl hdf9 e6 ⟨_, rfl, kw, ?_⟩)
    exact rfl
  · -- E: (errK (k : Nat) e : Int) != (0 : Int)
    exfalso
    exact hE (by simpa using hc)

set_option maxRecDepth 100000 in
theorem TextsD_ok (k : Nat) (n : Int) (t : ByteArray) (cn ci mv : Value) (e : Int) (hE : errK k e ≠ 0) (name : ByteArray) (most : Int) (w : World) (bo : Nat) (own_bo : Own w bo [.int .u8 k, .int .i64 n, .string t, cn, ci, mv, .int .i64 e] 69) : Calls Try.prog 37 #[.pointer (some ⟨bo, 0, none⟩), .string name, .int .i64 most] w (Ret w fun u _ => u = .slice none 0 0) := by
  refine enter Try.func37 rfl Try.ntmps37 (Nat.le_of_ble_eq_true rfl) fun a0 hsz0 hdf0 harg => ?_
  have e0 : sl a0 0 = (.pointer (some ⟨bo, 0, none⟩)) := harg 0 (Nat.le_of_ble_eq_true rfl)
  have e1 : sl a0 1 = (.string (name)) := harg 1 (Nat.le_of_ble_eq_true rfl)
  have e2 : sl a0 2 = (.int .i64 (most)) := harg 2 (Nat.le_of_ble_eq_true rfl)
  have kw := Keeps.refl All w
  clear harg
  refine wp_seq_k fun K1 hK1 => ?_
  refine wp_reg All mixed hsz0 hdf0 st_tr trivial ?_
  refine Chain.boxOp (v := (.int .i64 (most))) (Has.base rfl e2) ?_
  refine Chain.op (φ := Is (.slice none 0 0)) (st_is _) (sp_assign Has.cst) ?_
  refine Chain.done ⟨by kernel_rfl, fun a2 g W2 hsz2 hdf2 hk hg henv hrest hpsi => ?_⟩
  obtain ⟨-, ⟨b5_2, e5, hb5, own_b5_2⟩, -⟩ := henv
  have lo_b5_2 : w.heap.size ≤ b5_2 := Nat.le_trans kw.size (hg.lo _ _ hb5)
  have ne_bo_b5_2 : bo ≠ b5_2 := Nat.ne_of_lt (Nat.lt_of_lt_of_le own_bo.lt (hg.lo _ _ hb5))
  have own_b5_2 : Own W2 b5_2 [(.int .i64 (most))] 3 := own_b5_2
  replace e0 := (hrest 0 rfl).trans e0
  replace e1 := (hrest 1 rfl).trans e1
  replace own_bo := own_bo.ext hk
  replace kw := kw.trans (.of_ext hk)
  clear hrest hk hg hpsi hb5
  refine tail_nil (hK1 _ _ ?_)
  refine wp_seq_k fun K3 hK3 => ?_
  refine wp_reg All mixed hsz2 hdf2 st_tr trivial ?_
  refine Chain.op (φ := Is (.pointer (some ⟨bo, 0, none⟩))) (st_is _) (sp_move (Has.base rfl e0)) ?_
  refine Chain.op (φ := Is (.string (name))) (st_is _) (sp_move (Has.base rfl e1)) ?_
  refine Chain.op (φ := Is (.func (.func 54) #[] #[(.pointer (some ⟨b5_2, 0, none⟩))])) (st_is _) (sp_mkF1 (Has.base rfl e5)) ?_
  refine Chain.op (φ := Is (.slice none 0 0)) (st_is _) (sp_call3 (φ1 := Is (.pointer (some ⟨bo, 0, none⟩))) (φ2 := Is (.string (name))) (φ3 := Is (.func (.func 54) #[] #[(.pointer (some ⟨b5_2, 0, none⟩))])) ent53 (Has.loc rfl) (Has.loc rfl) (Has.loc rfl) (fun g u1 u2 u3 W hk hgk h1 h2 h3 => by have h1 : u1 = _ := h1; subst u1; have h2 : u2 = _ := h2; subst u2; have h3 : u3 = _ := h3; subst u3; exact takeSD_ok _ _ _ _ _ _ _ hE _ _ W _ (own_bo.ext hk))) ?_
  refine Chain.op (φ := Is (.slice none 0 0)) (st_is _) (sp_assign (Has.loc rfl)) ?_
  refine Chain.done ⟨by kernel_rfl, fun a4 g W4 hsz4 hdf4 hk hg henv hrest hpsi => ?_⟩
  obtain ⟨e6, -, -, -, -, -⟩ := henv
  have e6 : sl a4 6 = (.slice none 0 0) := e6
  replace own_bo := own_bo.ext hk
  replace own_b5_2 := own_b5_2.ext hk
  replace kw := kw.trans (.of_ext hk)
  clear hrest hk hg hpsi
  refine tail_nil (hK3 _ _ ?_)
  refine wp_ret ?_
  refine (show bodyPost Try.prog Try.f37 _ .ret _ _ from ret1 rfl hdf4 e6 ⟨_, rfl, kw, ?_⟩)
  exact rfl

set_option maxRecDepth 100000 in
theorem NumD_ok (k : Nat) (n : Int) (t : ByteArray) (cn ci mv : Value) (e : Int) (hE : errK k e ≠ 0) (name : ByteArray) (lo hi : Int) (w : World) (bo : Nat) (own_bo : Own w bo [.int .u8 k, .int .i64 n, .string t, cn, ci, mv, .int .i64 e] 69) : Calls Try.prog 38 #[.pointer (some ⟨bo, 0, none⟩), .string name, .int .i64 lo, .int .i64 hi] w (Ret w fun u _ => u = .int .i64 0) := by
  refine enter Try.func38 rfl Try.ntmps38 (Nat.le_of_ble_eq_true rfl) fun a0 hsz0 hdf0 harg => ?_
  have e0 : sl a0 0 = (.pointer (some ⟨bo, 0, none⟩)) := harg 0 (Nat.le_of_ble_eq_true rfl)
  have e1 : sl a0 1 = (.string (name)) := harg 1 (Nat.le_of_ble_eq_true rfl)
  have e2 : sl a0 2 = (.int .i64 (lo)) := harg 2 (Nat.le_of_ble_eq_true rfl)
  have e3 : sl a0 3 = (.int .i64 (hi)) := harg 3 (Nat.le_of_ble_eq_true rfl)
  have kw := Keeps.refl All w
  clear harg
  refine wp_seq_k fun K1 hK1 => ?_
  refine wp_reg All mixed hsz0 hdf0 st_tr trivial ?_
  refine Chain.boxOp (v := (.int .i64 (lo))) (Has.base rfl e2) ?_
  refine Chain.boxOp (v := (.int .i64 (hi))) (Has.base rfl e3) ?_
  refine Chain.op (φ := Is (.int .i64 (0))) (st_is _) (sp_assign Has.cst) ?_
  refine Chain.done ⟨by kernel_rfl, fun a2 g W2 hsz2 hdf2 hk hg henv hrest hpsi => ?_⟩
  obtain ⟨-, ⟨b7_2, e7, hb7, own_b7_2⟩, ⟨b6_2, e6, hb6, own_b6_2⟩, -⟩ := henv
  have lo_b7_2 : w.heap.size ≤ b7_2 := Nat.le_trans kw.size (hg.lo _ _ hb7)
  have ne_bo_b7_2 : bo ≠ b7_2 := Nat.ne_of_lt (Nat.lt_of_lt_of_le own_bo.lt (hg.lo _ _ hb7))
  have own_b7_2 : Own W2 b7_2 [(.int .i64 (hi))] 2 := own_b7_2
  have lo_b6_2 : w.heap.size ≤ b6_2 := Nat.le_trans kw.size (hg.lo _ _ hb6)
  have ne_bo_b6_2 : bo ≠ b6_2 := Nat.ne_of_lt (Nat.lt_of_lt_of_le own_bo.lt (hg.lo _ _ hb6))
  have own_b6_2 : Own W2 b6_2 [(.int .i64 (lo))] 2 := own_b6_2
  have ne_b7_2_b6_2 : b7_2 ≠ b6_2 := fun h => by have := hg.inj _ _ _ hb7 (h ▸ hb6); cases this
  replace e0 := (hrest 0 rfl).trans e0
  replace e1 := (hrest 1 rfl).trans e1
  replace own_bo := own_bo.ext hk
  replace kw := kw.trans (.of_ext hk)
  clear hrest hk hg hpsi hb7 hb6
  refine tail_nil (hK1 _ _ ?_)
  refine wp_seq_k fun K3 hK3 => ?_
  refine wp_reg All mixed hsz2 hdf2 st_tr trivial ?_
  refine Chain.op (φ := Is (.pointer (some ⟨bo, 0, none⟩))) (st_is _) (sp_move (Has.base rfl e0)) ?_
  refine Chain.op (φ := Is (.string (name))) (st_is _) (sp_move (Has.base rfl e1)) ?_
  refine Chain.op (φ := Is (.func (.func 57) #[] #[(.pointer (some ⟨b6_2, 0, none⟩)), (.pointer (some ⟨b7_2, 0, none⟩))])) (st_is _) (sp_mkF2 (Has.base rfl e6) (Has.base rfl e7)) ?_
  refine Chain.op (φ := Is (.int .i64 (0))) (st_is _) (sp_call3 (φ1 := Is (.pointer (some ⟨bo, 0, none⟩))) (φ2 := Is (.string (name))) (φ3 := Is (.func (.func 57) #[] #[(.pointer (some ⟨b6_2, 0, none⟩)), (.pointer (some ⟨b7_2, 0, none⟩))])) ent56 (Has.loc rfl) (Has.loc rfl) (Has.loc rfl) (fun g u1 u2 u3 W hk hgk h1 h2 h3 => by have h1 : u1 = _ := h1; subst u1; have h2 : u2 = _ := h2; subst u2; have h3 : u3 = _ := h3; subst u3; exact takeID_ok _ _ _ _ _ _ _ hE _ _ W _ (own_bo.ext hk))) ?_
  refine Chain.op (φ := Is (.int .i64 (0))) (st_is _) (sp_assign (Has.loc rfl)) ?_
  refine Chain.done ⟨by kernel_rfl, fun a4 g W4 hsz4 hdf4 hk hg henv hrest hpsi => ?_⟩
  obtain ⟨e8, -, -, -, -, -⟩ := henv
  have e8 : sl a4 8 = (.int .i64 (0)) := e8
  replace own_bo := own_bo.ext hk
  replace own_b7_2 := own_b7_2.ext hk
  replace own_b6_2 := own_b6_2.ext hk
  replace kw := kw.trans (.of_ext hk)
  clear hrest hk hg hpsi
  refine tail_nil (hK3 _ _ ?_)
  refine wp_ret ?_
  refine (show bodyPost Try.prog Try.f38 _ .ret _ _ from ret1 rfl hdf4 e8 ⟨_, rfl, kw, ?_⟩)
  exact rfl

set_option maxRecDepth 100000 in
theorem DoneD_ok (k : Nat) (n : Int) (t : ByteArray) (cn ci mv : Value) (e : Int) (hE : errK k e ≠ 0) (w : World) (bo : Nat) (own_bo : Own w bo [.int .u8 k, .int .i64 n, .string t, cn, ci, mv, .int .i64 e] 69) : Calls Try.prog 33 #[.pointer (some ⟨bo, 0, none⟩)] w (Ret w fun u _ => u = .int .i64 (errK k e)) := by
  refine enter Try.func33 rfl Try.ntmps33 (Nat.le_of_ble_eq_true rfl) fun a0 hsz0 hdf0 harg => ?_
  have e0 : sl a0 0 = (.pointer (some ⟨bo, 0, none⟩)) := harg 0 (Nat.le_of_ble_eq_true rfl)
  have kw := Keeps.refl All w
  clear harg
  refine wp_seq_k fun K1 hK1 => ?_
  refine wp_reg All mixed hsz0 hdf0 st_tr trivial ?_
  refine Chain.op (φ := Is (.int .i64 (0))) (st_is _) (sp_assign Has.cst) ?_
  refine Chain.done ⟨by kernel_rfl, fun a2 g W2 hsz2 hdf2 hk hg henv hrest hpsi => ?_⟩
  obtain ⟨-, -⟩ := henv
  replace e0 := (hrest 0 rfl).trans e0
  replace own_bo := own_bo.ext hk
  replace kw := kw.trans (.of_ext hk)
  clear hrest hk hg hpsi
  refine tail_nil (hK1 _ _ ?_)
  refine wp_seq_k fun K3 hK3 => ?_
  refine wp_seq_k fun K4 hK4 => ?_
  refine wp_reg All mixed hsz2 hdf2 st_tr trivial ?_
  refine Chain.op (φ := Is (.pointer (some ⟨bo, 0, none⟩))) (st_is _) (sp_move (Has.base rfl e0)) ?_
  refine Chain.op (φ := Is (.int .i64 (errK (k : Nat) e))) (st_is _) (sp_call1 (φ1 := Is (.pointer (some ⟨bo, 0, none⟩))) ent19 (Has.loc rfl) (fun g u1 W hk hgk h1 => by have h1 : u1 = _ := h1; subst u1; exact Err_ok _ _ _ _ _ _ _ W _ (own_bo.ext hk))) ?_
  refine Chain.op (φ := Is (.int .i64 (errK (k : Nat) e))) (st_is _) (sp_assign (Has.loc rfl)) ?_
  refine Chain.done ⟨by kernel_rfl, fun a5 g W5 hsz5 hdf5 hk hg henv hrest hpsi => ?_⟩
  obtain ⟨e3, -, -, -⟩ := henv
  replace e0 := (hrest 0 rfl).trans e0
  have e3 : sl a5 3 = (.int .i64 (errK (k : Nat) e)) := e3
  replace own_bo := own_bo.ext hk
  replace kw := kw.trans (.of_ext hk)
  clear hrest hk hg hpsi
  refine tail_nil (hK4 _ _ ?_)
  refine wp_seq_k fun K6 hK6 => ?_
  refine wp_reg All mixed hsz5 hdf5 st_tr trivial ?_
  refine Chain.op (φ := Is (.int .i64 (errK (k : Nat) e))) (st_is _) (sp_move (Has.base rfl e3)) ?_
  refine Chain.op (φ := Is (.bool ((errK (k : Nat) e : Int) != (0 : Int)))) (st_is _) (sp_neq (Has.loc rfl) Has.cst) ?_
  refine Chain.done ⟨by kernel_rfl, fun a7 g W7 hsz7 hdf7 hk hg henv hrest hpsi => ?_⟩
  obtain ⟨e9, -, -⟩ := henv
  replace e0 := (hrest 0 rfl).trans e0
  replace e3 := (hrest 3 rfl).trans e3
  have e9 : sl a7 9 = (.bool ((errK (k : Nat) e : Int) != (0 : Int))) := e9
  replace own_bo := own_bo.ext hk
  replace kw := kw.trans (.of_ext hk)
  clear hrest hk hg hpsi
  refine tail_nil (hK6 _ _ ?_)
  refine wp_cond_split e9 (fun hc => ?_) (fun hc => ?_)
  · -- T: (errK (k : Nat) e : Int) != (0 : Int)
    refine wp_seq_k fun K8 hK8 => ?_
    refine wp_reg All mixed hsz7 hdf7 st_tr trivial ?_
    refine Chain.op (φ := Is (.int .i64 (errK (k : Nat) e))) (st_is _) (sp_move (Has.base rfl e3)) ?_
    refine Chain.op (φ := Is (.int .i64 (errK (k : Nat) e))) (st_is _) (sp_assign (Has.loc rfl)) ?_
    refine Chain.done ⟨by kernel_rfl, fun a9 g W9 hsz9 hdf9 hk hg henv hrest hpsi => ?_⟩
    obtain ⟨e2, -, -⟩ := henv
    have e2 : sl a9 2 = (.int .i64 (errK (k : Nat) e)) := e2
    replace own_bo := own_bo.ext hk
    replace kw := kw.trans (.of_ext hk)
    clear hrest hk hg hpsi
    refine tail_nil (hK8 _ _ ?_)
    refine wp_ret ?_
    refine (show bodyPost Try.prog Try.f33 _ .ret _ _ from ret1 rfl hdf9 e2 ⟨_, rfl, kw, ?_⟩)
    exact rfl
  · -- E: (errK (k : Nat) e : Int) != (0 : Int)
    exfalso
    exact hE (by simpa using hc)

set_option maxRecDepth 100000 in
theorem PartD_ok (k : Nat) (n : Int) (t : ByteArray) (cn ci mv : Value) (e : Int) (hE : errK k e ≠ 0) (w : World) (bo : Nat) (own_bo : Own w bo [.int .u8 k, .int .i64 n, .string t, cn, ci, mv, .int .i64 e] 69) : Calls Try.prog 18 #[.pointer (some ⟨bo, 0, none⟩)] w (RetL w [bo] fun u W => u = .agg #[.int .i64 0, .slice none 0 0] ∧ Own W bo [.int .u8 k, .int .i64 n, .string t, cn, ci, mv, .int .i64 e] 69) := by
  refine enter Try.func18 rfl Try.ntmps18 (Nat.le_of_ble_eq_true rfl) fun a0 hsz0 hdf0 harg => ?_
  have e0 : sl a0 0 = (.pointer (some ⟨bo, 0, none⟩)) := harg 0 (Nat.le_of_ble_eq_true rfl)
  have kw := Keeps.refl (fun k => k ∉ [bo]) w
  clear harg
  refine wp_seq_k fun K1 hK1 => ?_
  refine wp_reg All mixed hsz0 hdf0 st_tr trivial ?_
  refine Chain.alloc z27 ?_
  refine Chain.done ⟨by kernel_rfl, fun a2 g W2 hsz2 hdf2 hk hg henv hrest hpsi => ?_⟩
  obtain ⟨⟨b2_2, e2, hb2, own_b2_2⟩, -⟩ := henv
  have lo_b2_2 : w.heap.size ≤ b2_2 := Nat.le_trans kw.size (hg.lo _ _ hb2)
  have ne_bo_b2_2 : bo ≠ b2_2 := Nat.ne_of_lt (Nat.lt_of_lt_of_le own_bo.lt (hg.lo _ _ hb2))
  have own_b2_2 : Own W2 b2_2 [(.int .i64 (0)), (.slice none 0 0)] 27 := own_b2_2
  replace e0 := (hrest 0 rfl).trans e0
  replace own_bo := own_bo.ext hk
  replace kw := kw.trans (.of_ext hk)
  clear hrest hk hg hpsi hb2
  refine tail_nil (hK1 _ _ ?_)
  refine wp_seq_k fun K3 hK3 => ?_
  refine wp_reg All mixed hsz2 hdf2 st_tr trivial ?_
  refine Chain.op (φ := Is (.pointer (some ⟨bo, 0, none⟩))) (st_is _) (sp_move (Has.base rfl e0)) ?_
  refine Chain.op (φ := Is (.slice none 0 0)) (st_is _) (sp_call3 (φ1 := Is (.pointer (some ⟨bo, 0, none⟩))) (φ2 := Is (.string (⟨#[107, 101, 121, 105, 100, 115]⟩))) (φ3 := Is (.int .i64 (16))) ent37 (Has.loc rfl) Has.cst Has.cst (fun g u1 u2 u3 W hk hgk h1 h2 h3 => by have h1 : u1 = _ := h1; subst u1; have h2 : u2 = _ := h2; subst u2; have h3 : u3 = _ := h3; subst u3; exact TextsD_ok _ _ _ _ _ _ _ hE _ _ W _ (own_bo.ext hk))) ?_
  refine Chain.op (φ := Is (.slice none 0 0)) (st_is _) (sp_assign (Has.loc rfl)) ?_
  refine Chain.done ⟨by kernel_rfl, fun a4 g W4 hsz4 hdf4 hk hg henv hrest hpsi => ?_⟩
  obtain ⟨e3, -, -, -⟩ := henv
  replace e0 := (hrest 0 rfl).trans e0
  replace e2 := (hrest 2 rfl).trans e2
  have e3 : sl a4 3 = (.slice none 0 0) := e3
  replace own_bo := own_bo.ext hk
  replace own_b2_2 := own_b2_2.ext hk
  replace kw := kw.trans (.of_ext hk)
  clear hrest hk hg hpsi
  refine tail_nil (hK3 _ _ ?_)
  refine wp_seq_k fun K5 hK5 => ?_
  refine wp_seq_k fun K6 hK6 => ?_
  refine wp_reg All mixed hsz4 hdf4 st_tr trivial ?_
  refine Chain.op (φ := Is (.slice none 0 0)) (st_is _) (sp_move (Has.base rfl e3)) ?_
  refine Chain.op (φ := Is (.int .i64 (((0 : Nat) : Int)))) (st_is _) (sp_lenV Try.underlying23 (Has.loc rfl)) ?_
  refine Chain.op (φ := Is (.bool ((((0 : Nat) : Int) : Int) == (0 : Int)))) (st_is _) (sp_eql (Has.loc rfl) Has.cst) ?_
  refine Chain.done ⟨by kernel_rfl, fun a7 g W7 hsz7 hdf7 hk hg henv hrest hpsi => ?_⟩
  obtain ⟨e9, -, -, -⟩ := henv
  replace e0 := (hrest 0 rfl).trans e0
  replace e2 := (hrest 2 rfl).trans e2
  replace e3 := (hrest 3 rfl).trans e3
  have e9 : sl a7 9 = (.bool ((((0 : Nat) : Int) : Int) == (0 : Int))) := e9
  replace own_bo := own_bo.ext hk
  replace own_b2_2 := own_b2_2.ext hk
  replace kw := kw.trans (.of_ext hk)
  clear hrest hk hg hpsi
  refine tail_nil (hK6 _ _ ?_)
  refine wp_cond_true (e9.trans (congrArg Value.bool (by decide))) ?_
  refine wp_reg (fun k => k ∉ [bo]) (Ψ := fun W => Own W bo [(.int .u8 ((k : Nat))), (.int .i64 (n)), (.string (t)), cn, ci, mv, (.int .i64 (e))] 69) mixed hsz7 hdf7 stE_own own_bo ?_
  refine Chain.op (φ := Is (.pointer (some ⟨bo, 0, none⟩))) (st_is _) (sp_move (Has.base rfl e0)) ?_
  refine Chain.callL2 (φ1 := Is (.pointer (some ⟨bo, 0, none⟩))) (φ2 := Is (.int .i64 (4))) (φ := Is (.tuple #[])) (Ψ' := fun W => Own W bo [(.int .u8 ((k : Nat))), (.int .i64 (n)), (.string (t)), cn, ci, mv, (.int .i64 (e))] 69) ent17 (Has.loc rfl) Has.cst (st_is _) stE_own (fun g u1 u2 W hk hg h1 h2 hpsi => by have h1 : u1 = _ := h1; subst u1; have h2 : u2 = _ := h2; subst u2; exact (Fail_ok _ _ _ _ _ _ _ (4) W _ hpsi).mono (fun _ _ ⟨v, h1, h2, h3, h4⟩ => ⟨v, h1, h2, h3, by rw [failK_dead hE] at h4; exact h4⟩)) ?_
  refine Chain.done ⟨by kernel_rfl, fun a8 g W8 hsz8 hdf8 hk hg henv hrest hpsi => ?_⟩
  obtain ⟨-, -, -⟩ := henv
  replace e0 := (hrest 0 rfl).trans e0
  replace e2 := (hrest 2 rfl).trans e2
  replace e3 := (hrest 3 rfl).trans e3
  replace own_b2_2 := own_keepL own_b2_2 hk (by simp [ne_bo_b2_2.symm])
  have own_bo := hpsi
  replace own_bo : Own W8 bo [(.int .u8 ((k : Nat))), (.int .i64 (n)), (.string (t)), cn, ci, mv, (.int .i64 (e))] 69 := own_bo
  replace kw := keeps_L kw hk (in_cons (.inr (by simp)) in_nil)
  clear hrest hk hg hpsi
  refine tail_nil (hK5 _ _ ?_)
  refine wp_seq_k fun K9 hK9 => ?_
  refine wp_reg (fun k => k ∉ [bo]) (Ψ := fun W => Own W bo [(.int .u8 ((k : Nat))), (.int .i64 (n)), (.string (t)), cn, ci, mv, (.int .i64 (e))] 69) mixed hsz8 hdf8 stE_own own_bo ?_
  refine Chain.op (φ := Is (.pointer (some ⟨bo, 0, none⟩))) (st_is _) (sp_move (Has.base rfl e0)) ?_
  refine Chain.op (φ := Is (.slice none 0 0)) (st_is _) (sp_move (Has.base rfl e3)) ?_
  refine Chain.op (φ := Is (.int .i64 (wrongE [] ([])))) (st_is _) (sp_call1 (φ1 := IsD (SF w [b2_2, bo]) (strsD ([]))) ent34 ((Has.loc rfl).dat (rd_nil _ : Rd W8 (SF w [b2_2, bo]) (strsD ([])) _) (sub_nlF (by simp))) (fun g u1 W hk hgk h1 => wrong_ok ([]) W _ _ h1)) ?_
  refine Chain.callL2 (φ1 := Is (.pointer (some ⟨bo, 0, none⟩))) (φ2 := Is (.int .i64 (wrongE [] ([])))) (φ := Is (.tuple #[])) (Ψ' := fun W => Own W bo [(.int .u8 ((k : Nat))), (.int .i64 (n)), (.string (t)), cn, ci, mv, (.int .i64 (e))] 69) ent17 (Has.loc rfl) (Has.loc rfl) (st_is _) stE_own (fun g u1 u2 W hk hg h1 h2 hpsi => by have h1 : u1 = _ := h1; subst u1; have h2 : u2 = _ := h2; subst u2; exact (Fail_ok _ _ _ _ _ _ _ (wrongE [] ([])) W _ hpsi).mono (fun _ _ ⟨v, h1, h2, h3, h4⟩ => ⟨v, h1, h2, h3, by rw [failK_dead hE] at h4; exact h4⟩)) ?_
  refine Chain.done ⟨by kernel_rfl, fun a10 g W10 hsz10 hdf10 hk hg henv hrest hpsi => ?_⟩
  obtain ⟨-, -, -, -, -⟩ := henv
  replace e0 := (hrest 0 rfl).trans e0
  replace e2 := (hrest 2 rfl).trans e2
  replace e3 := (hrest 3 rfl).trans e3
  replace own_b2_2 := own_keepL own_b2_2 hk (by simp [ne_bo_b2_2.symm])
  have own_bo := hpsi
  replace own_bo : Own W10 bo [(.int .u8 ((k : Nat))), (.int .i64 (n)), (.string (t)), cn, ci, mv, (.int .i64 (e))] 69 := own_bo
  replace kw := keeps_L kw hk (in_cons (.inr (by simp)) in_nil)
  clear hrest hk hg hpsi
  refine tail_nil (hK9 _ _ ?_)
  refine wp_seq_k fun K11 hK11 => ?_
  refine wp_reg All mixed hsz10 hdf10 st_tr trivial ?_
  refine Chain.op (φ := Is (.pointer (some ⟨bo, 0, none⟩))) (st_is _) (sp_move (Has.base rfl e0)) ?_
  refine Chain.op (φ := Is (.slice none 0 0)) (st_is _) (sp_move (Has.base rfl e3)) ?_
  refine Chain.op (φ := Is (.int .i64 (((0 : Nat) : Int)))) (st_is _) (sp_lenV Try.underlying23 (Has.loc rfl)) ?_
  refine Chain.op (φ := Is (.int .i64 (0))) (st_is _) (sp_call4 (φ1 := Is (.pointer (some ⟨bo, 0, none⟩))) (φ2 := Is (.string (⟨#[116, 104, 114, 101, 115, 104, 111, 108, 100]⟩))) (φ3 := Is (.int .i64 (1))) (φ4 := Is (.int .i64 (((0 : Nat) : Int)))) ent38 (Has.loc rfl) Has.cst Has.cst (Has.loc rfl) (fun g u1 u2 u3 u4 W hk hgk h1 h2 h3 h4 => by have h1 : u1 = _ := h1; subst u1; have h2 : u2 = _ := h2; subst u2; have h3 : u3 = _ := h3; subst u3; have h4 : u4 = _ := h4; subst u4; exact NumD_ok _ _ _ _ _ _ _ hE _ _ _ W _ (own_bo.ext hk))) ?_
  refine Chain.op (φ := Is (.int .i64 (0))) (st_is _) (sp_assign (Has.loc rfl)) ?_
  refine Chain.done ⟨by kernel_rfl, fun a12 g W12 hsz12 hdf12 hk hg henv hrest hpsi => ?_⟩
  obtain ⟨e4, -, -, -, -, -⟩ := henv
  replace e0 := (hrest 0 rfl).trans e0
  replace e2 := (hrest 2 rfl).trans e2
  replace e3 := (hrest 3 rfl).trans e3
  have e4 : sl a12 4 = (.int .i64 (0)) := e4
  replace own_bo := own_bo.ext hk
  replace own_b2_2 := own_b2_2.ext hk
  replace kw := kw.trans (.of_ext hk)
  clear hrest hk hg hpsi
  refine tail_nil (hK11 _ _ ?_)
  refine wp_seq_k fun K13 hK13 => ?_
  refine wp_seq_k fun K14 hK14 => ?_
  refine wp_reg All mixed hsz12 hdf12 st_tr trivial ?_
  refine Chain.op (φ := Is (.pointer (some ⟨bo, 0, none⟩))) (st_is _) (sp_move (Has.base rfl e0)) ?_
  refine Chain.op (φ := Is (.int .i64 (errK (k : Nat) e))) (st_is _) (sp_call1 (φ1 := Is (.pointer (some ⟨bo, 0, none⟩))) ent19 (Has.loc rfl) (fun g u1 W hk hgk h1 => by have h1 : u1 = _ := h1; subst u1; exact Err_ok _ _ _ _ _ _ _ W _ (own_bo.ext hk))) ?_
  refine Chain.op (φ := Is (.bool ((errK (k : Nat) e : Int) != (0 : Int)))) (st_is _) (sp_neq (Has.loc rfl) Has.cst) ?_
  refine Chain.done ⟨by kernel_rfl, fun a15 g W15 hsz15 hdf15 hk hg henv hrest hpsi => ?_⟩
  obtain ⟨e22, -, -, -⟩ := henv
  replace e2 := (hrest 2 rfl).trans e2
  replace e3 := (hrest 3 rfl).trans e3
  replace e4 := (hrest 4 rfl).trans e4
  have e22 : sl a15 22 = (.bool ((errK (k : Nat) e : Int) != (0 : Int))) := e22
  replace own_bo := own_bo.ext hk
  replace own_b2_2 := own_b2_2.ext hk
  replace kw := kw.trans (.of_ext hk)
  clear hrest hk hg hpsi
  refine tail_nil (hK14 _ _ ?_)
  refine wp_cond_split e22 (fun hc => ?_) (fun hc => ?_)
  · -- T: (errK (k : Nat) e : Int) != (0 : Int)
    refine wp_seq_k fun K16 hK16 => ?_
    refine wp_reg All mixed hsz15 hdf15 st_tr trivial ?_
    refine Chain.op (φ := Is (.agg #[(.int .i64 (0)), (.slice none 0 0)])) (st_is _) (sp_build (vs := []) Try.underlying27 z27 (pl27 Try.underlying27) trivial rfl) ?_
    refine Chain.done ⟨by kernel_rfl, fun a17 g W17 hsz17 hdf17 hk hg henv hrest hpsi => ?_⟩
    obtain ⟨e23, -⟩ := henv
    replace e2 := (hrest 2 rfl).trans e2
    have e23 : sl a17 23 = (.agg #[(.int .i64 (0)), (.slice none 0 0)]) := e23
    replace own_bo := own_bo.ext hk
    replace own_b2_2 := own_b2_2.ext hk
    replace kw := kw.trans (.of_ext hk)
    clear hrest hk hg hpsi
    refine tail_store (b := b2_2) (o := 0) (v := (.agg #[(.int .i64 (0)), (.slice none 0 0)])) e2 e23 sz27 rfl own_b2_2 (Nat.le_of_ble_eq_true rfl) (all_cons rfl (all_cons rfl all_nil)) (fun W18 hs own_b2_2 => ?_)
    have own_b2_2 : Own W18 b2_2 [(.int .i64 (0)), (.slice none 0 0)] 27 := own_b2_2
    replace own_bo := own_store own_bo hs ne_bo_b2_2
    replace kw := keeps_store kw hs lo_b2_2
    clear hs
    refine tail_nil (hK16 _ _ ?_)
    refine wp_ret ?_
    refine (show bodyPost Try.prog Try.f18 _ .ret _ _ from retC (v := (.agg #[(.int .i64 (0)), (.slice none 0 0)])) rfl hdf17 e2 own_b2_2 agg27 sz27 rfl (fun h => by cases h) rfl ⟨_, rfl, kw, ?_⟩)
    exact ⟨rfl, own_bo⟩
  · -- E: (errK (k : Nat) e : Int) != (0 : Int)
    exfalso
    exact hE (by simpa using hc)

set_option maxRecDepth 100000 in
theorem Part_ok (x : V) (A : As) (e : Int) (hA : AB 1000 A) (hx : x.wt ≤ 1073741824) (hxt : x.t.size ≤ maxLen) (w : World) (S : BSet) (cn ci : Value) (bo bm : Nat) (hS : ∀ b o, S b o → Cln o) (hM : ∀ b ∈ [bo, bm], ∀ o, ¬ S b o) (hne : bo ≠ bm) (hv : Rd w S (strsD x.ns) cn) (hu : Rd w S (valsD x.xs) ci) (own_bo : Own w bo [.int .u8 x.k, .int .i64 x.n, .string x.t, cn, ci, .map (some bm), .int .i64 (e)] 69) (own_bm : OwnM w bm A) : Calls Try.prog 18 #[.pointer (some ⟨bo, 0, none⟩)] w (RetL w [bo, bm] fun u W => Rd W (Fr w) (partA x e).d u ∧ Own W bo [.int .u8 x.k, .int .i64 x.n, .string x.t, cn, ci, .map (some bm), .int .i64 (partE x e)] 69 ∧ OwnM W bm (partM x A e)) := by
  obtain ⟨cna, cnc, ev, D_cn⟩ := rdS_out (rd_argM (M := [bo, bm]) hv hM)
  subst ev
  obtain ⟨cia, cic, ev, D_ci⟩ := rdVs_out (rd_argM (M := [bo, bm]) hu hM)
  subst ev
  refine enter Try.func18 rfl Try.ntmps18 (Nat.le_of_ble_eq_true rfl) fun a0 hsz0 hdf0 harg => ?_
  have e0 : sl a0 0 = (.pointer (some ⟨bo, 0, none⟩)) := harg 0 (Nat.le_of_ble_eq_true rfl)
  have kw := Keeps.refl (fun k => k ∉ [bo, bm]) w
  clear harg
  refine wp_seq_k fun K1 hK1 => ?_
  refine wp_reg All mixed hsz0 hdf0 st_tr trivial ?_
  refine Chain.alloc z27 ?_
  refine Chain.done ⟨by kernel_rfl, fun a2 g W2 hsz2 hdf2 hk hg henv hrest hpsi => ?_⟩
  obtain ⟨⟨b2_2, e2, hb2, own_b2_2⟩, -⟩ := henv
  have lo_b2_2 : w.heap.size ≤ b2_2 := Nat.le_trans kw.size (hg.lo _ _ hb2)
  have ne_bo_b2_2 : bo ≠ b2_2 := Nat.ne_of_lt (Nat.lt_of_lt_of_le own_bo.lt (hg.lo _ _ hb2))
  have ne_bm_b2_2 : bm ≠ b2_2 := Nat.ne_of_lt (Nat.lt_of_lt_of_le own_bm.lt (hg.lo _ _ hb2))
  have own_b2_2 : Own W2 b2_2 [(.int .i64 (0)), (.slice none 0 0)] 27 := own_b2_2
  replace e0 := (hrest 0 rfl).trans e0
  replace D_cn := sa_more D_cn hk [b2_2] (in_cons (hg.lo _ _ hb2) in_nil)
  replace D_ci := sa_more D_ci hk [b2_2] (in_cons (hg.lo _ _ hb2) in_nil)
  replace own_bo := own_bo.ext hk
  replace own_bm := own_bm.ext hk
  replace kw := kw.trans (.of_ext hk)
  clear hrest hk hg hpsi hb2
  refine tail_nil (hK1 _ _ ?_)
  refine wp_seq_k fun K3 hK3 => ?_
  refine wp_reg (fun k => k ∉ [bo, bm]) (Ψ := fun W => Own W bo [(.int .u8 (x.k)), (.int .i64 (x.n)), (.string (x.t)), (.slice cna (x.ns.length) cnc), (.slice cia (x.xs.length) cic), (.map (some bm)), (.int .i64 (e))] 69 ∧ OwnM W bm (A)) mixed hsz2 hdf2 (stE_and stE_own stE_ownM) ⟨own_bo, own_bm⟩ ?_
  refine Chain.op (φ := Is (.pointer (some ⟨bo, 0, none⟩))) (st_is _) (sp_move (Has.base rfl e0)) ?_
  refine Chain.callL3 (φ1 := Is (.pointer (some ⟨bo, 0, none⟩))) (φ2 := Is (.string (⟨#[107, 101, 121, 105, 100, 115]⟩))) (φ3 := Is (.int .i64 (16))) (φ := IsD (Fr W2) (strsD (if tkB x e ⟨#[107, 101, 121, 105, 100, 115]⟩ (textsE 16) then textsL 16 (getV x ⟨#[107, 101, 121, 105, 100, 115]⟩) else []))) (Ψ' := fun W => Own W bo [(.int .u8 (x.k)), (.int .i64 (x.n)), (.string (x.t)), (.slice cna (x.ns.length) cnc), (.slice cia (x.xs.length) cic), (.map (some bm)), (.int .i64 (tkE x e ⟨#[107, 101, 121, 105, 100, 115]⟩ (textsE 16)))] 69 ∧ OwnM W bm (tkA x A e ⟨#[107, 101, 121, 105, 100, 115]⟩ (textsE 16))) ent37 (Has.loc rfl) Has.cst Has.cst (st_d (sub_frnl (in_cons own_bo.lt (in_cons own_bm.lt in_nil)))) (stE_and stE_own stE_ownM) (fun g u1 u2 u3 W hk hg h1 h2 h3 hpsi => by have h1 : u1 = _ := h1; subst u1; have h2 : u2 = _ := h2; subst u2; have h3 : u3 = _ := h3; subst u3; exact (Texts_ok (x) (A) (e) (hA.mono (by omega)) hx hxt ⟨#[107, 101, 121, 105, 100, 115]⟩ 16 W _ _ _ _ _ (sa_cln hS) (sa_notin (by simp)) hne (sa_keepL D_cn hk (by simp)) (sa_keepL D_ci hk (by simp)) hpsi.1 hpsi.2).mono (fun _ _ ⟨v, h1, h2, h3, h4⟩ => ⟨v, h1, h2, fresh_d hk hg h3, h4⟩)) ?_
  refine Chain.op (φ := IsD (Fr W2) (strsD (if tkB x e ⟨#[107, 101, 121, 105, 100, 115]⟩ (textsE 16) then textsL 16 (getV x ⟨#[107, 101, 121, 105, 100, 115]⟩) else []))) (st_d (sub_frnl (in_cons own_bo.lt (in_cons own_bm.lt in_nil)))) (sp_assign (Has.loc rfl)) ?_
  refine Chain.done ⟨by kernel_rfl, fun a4 g W4 hsz4 hdf4 hk hg henv hrest hpsi => ?_⟩
  obtain ⟨e3, -, -, -⟩ := henv
  replace e0 := (hrest 0 rfl).trans e0
  replace e2 := (hrest 2 rfl).trans e2
  obtain ⟨v3_4, ev⟩ : ∃ v, sl a4 3 = v := ⟨_, rfl⟩
  rw [ev] at e3
  have D_v3_4 : Rd W4 (SF w [b2_2, bo, bm]) (strsD (if tkB x e ⟨#[107, 101, 121, 105, 100, 115]⟩ (textsE 16) then textsL 16 (getV x ⟨#[107, 101, 121, 105, 100, 115]⟩) else [])) v3_4 := fr_end (M := [b2_2, bo, bm]) e3 kw [] in_nil (in_cons own_b2_2.lt (in_cons own_bo.lt (in_cons own_bm.lt in_nil)))
  replace e3 := ev; clear ev
  obtain ⟨v3_4a, v3_4c, ev, D2⟩ := rdS_out D_v3_4
  subst ev; replace D_v3_4 := D2; clear D2
  replace D_cn := sa_keepL D_cn hk (by simp)
  replace D_ci := sa_keepL D_ci hk (by simp)
  replace own_b2_2 := own_keepL own_b2_2 hk (by simp [ne_bo_b2_2.symm, ne_bm_b2_2.symm])
  obtain ⟨own_bo, own_bm⟩ := hpsi
  replace own_bo : Own W4 bo [(.int .u8 (x.k)), (.int .i64 (x.n)), (.string (x.t)), (.slice cna (x.ns.length) cnc), (.slice cia (x.xs.length) cic), (.map (some bm)), (.int .i64 (tkE x e ⟨#[107, 101, 121, 105, 100, 115]⟩ (textsE 16)))] 69 := own_bo
  replace own_bm : OwnM W4 bm (tkA x A e ⟨#[107, 101, 121, 105, 100, 115]⟩ (textsE 16)) := own_bm
  replace kw := keeps_L kw hk (in_cons (.inr (by simp)) (in_cons (.inr (by simp)) in_nil))
  clear hrest hk hg
  refine tail_nil (hK3 _ _ ?_)
  refine wp_seq_k fun K5 hK5 => ?_
  refine wp_seq_k fun K6 hK6 => ?_
  refine wp_reg All mixed hsz4 hdf4 st_tr trivial ?_
  refine Chain.op (φ := Is (.slice v3_4a ((if tkB x e ⟨#[107, 101, 121, 105, 100, 115]⟩ (textsE 16) then textsL 16 (getV x ⟨#[107, 101, 121, 105, 100, 115]⟩) else []).length) v3_4c)) (st_is _) (sp_move (Has.base rfl e3)) ?_
  refine Chain.op (φ := Is (.int .i64 ((if tkB x e ⟨#[107, 101, 121, 105, 100, 115]⟩ (textsE 16) then textsL 16 (getV x ⟨#[107, 101, 121, 105, 100, 115]⟩) else []).length))) (st_is _) (sp_lenSs Try.underlying23 ((Has.loc rfl).dat D_v3_4 sub_all)) ?_
  refine Chain.op (φ := Is (.bool (((if tkB x e ⟨#[107, 101, 121, 105, 100, 115]⟩ (textsE 16) then textsL 16 (getV x ⟨#[107, 101, 121, 105, 100, 115]⟩) else []).length : Int) == (0 : Int)))) (st_is _) (sp_eql (Has.loc rfl) Has.cst) ?_
  refine Chain.done ⟨by kernel_rfl, fun a7 g W7 hsz7 hdf7 hk hg henv hrest hpsi => ?_⟩
  obtain ⟨e9, -, -, -⟩ := henv
  replace e0 := (hrest 0 rfl).trans e0
  replace e2 := (hrest 2 rfl).trans e2
  replace e3 := (hrest 3 rfl).trans e3
  replace D_cn := D_cn.ext hk
  replace D_ci := D_ci.ext hk
  replace D_v3_4 := D_v3_4.ext hk
  have e9 : sl a7 9 = (.bool (((if tkB x e ⟨#[107, 101, 121, 105, 100, 115]⟩ (textsE 16) then textsL 16 (getV x ⟨#[107, 101, 121, 105, 100, 115]⟩) else []).length : Int) == (0 : Int))) := e9
  replace own_bo := own_bo.ext hk
  replace own_bm := own_bm.ext hk
  replace own_b2_2 := own_b2_2.ext hk
  replace kw := kw.trans (.of_ext hk)
  clear hrest hk hg hpsi
  refine tail_nil (hK6 _ _ ?_)
  refine wp_cond_split e9 (fun hc => ?_) (fun hc => ?_)
  · -- T: ((if tkB x e ⟨#[107, 101, 121, 105, 100, 115]⟩ (textsE 16) then textsL 16 (getV 
    have hl : (idsP x e).length = 0 := by have h := eq_of_beq hc; unfold idsP; omega
    have h2 : e2P x e = failK x.k (e1P x e) 4 := by rw [e2P, if_pos hl]
    refine wp_reg (fun k => k ∉ [bo]) (Ψ := fun W => Own W bo [(.int .u8 (x.k)), (.int .i64 (x.n)), (.string (x.t)), (.slice cna (x.ns.length) cnc), (.slice cia (x.xs.length) cic), (.map (some bm)), (.int .i64 (tkE x e ⟨#[107, 101, 121, 105, 100, 115]⟩ (textsE 16)))] 69) mixed hsz7 hdf7 stE_own own_bo ?_
    refine Chain.op (φ := Is (.pointer (some ⟨bo, 0, none⟩))) (st_is _) (sp_move (Has.base rfl e0)) ?_
    refine Chain.callL2 (φ1 := Is (.pointer (some ⟨bo, 0, none⟩))) (φ2 := Is (.int .i64 (4))) (φ := Is (.tuple #[])) (Ψ' := fun W => Own W bo [(.int .u8 (x.k)), (.int .i64 (x.n)), (.string (x.t)), (.slice cna (x.ns.length) cnc), (.slice cia (x.xs.length) cic), (.map (some bm)), (.int .i64 (failK x.k (tkE x e ⟨#[107, 101, 121, 105, 100, 115]⟩ (textsE 16)) 4))] 69) ent17 (Has.loc rfl) Has.cst (st_is _) stE_own (fun g u1 u2 W hk hg h1 h2 hpsi => by have h1 : u1 = _ := h1; subst u1; have h2 : u2 = _ := h2; subst u2; exact (Fail_ok _ _ _ _ _ _ _ (4) W _ hpsi)) ?_
    refine Chain.done ⟨by kernel_rfl, fun a8 g W8 hsz8 hdf8 hk hg henv hrest hpsi => ?_⟩
    obtain ⟨-, -, -⟩ := henv
    replace e0 := (hrest 0 rfl).trans e0
    replace e2 := (hrest 2 rfl).trans e2
    replace e3 := (hrest 3 rfl).trans e3
    replace D_cn := sa_keepL D_cn hk (by simp)
    replace D_ci := sa_keepL D_ci hk (by simp)
    replace D_v3_4 := sf_keepL D_v3_4 hk (by simp)
    replace own_bm := ownM_keepL own_bm hk (by simp [hne.symm])
    replace own_b2_2 := own_keepL own_b2_2 hk (by simp [ne_bo_b2_2.symm])
    have own_bo := hpsi
    replace own_bo : Own W8 bo [(.int .u8 (x.k)), (.int .i64 (x.n)), (.string (x.t)), (.slice cna (x.ns.length) cnc), (.slice cia (x.xs.length) cic), (.map (some bm)), (.int .i64 (failK x.k (tkE x e ⟨#[107, 101, 121, 105, 100, 115]⟩ (textsE 16)) 4))] 69 := own_bo
    replace kw := keeps_L kw hk (in_cons (.inr (by simp)) in_nil)
    clear hrest hk hg hpsi
    refine tail_nil (hK5 _ _ ?_)
    refine wp_seq_k fun K9 hK9 => ?_
    refine wp_reg (fun k => k ∉ [bo]) (Ψ := fun W => Own W bo [(.int .u8 (x.k)), (.int .i64 (x.n)), (.string (x.t)), (.slice cna (x.ns.length) cnc), (.slice cia (x.xs.length) cic), (.map (some bm)), (.int .i64 (failK x.k (tkE x e ⟨#[107, 101, 121, 105, 100, 115]⟩ (textsE 16)) 4))] 69) mixed hsz8 hdf8 stE_own own_bo ?_
    refine Chain.op (φ := Is (.pointer (some ⟨bo, 0, none⟩))) (st_is _) (sp_move (Has.base rfl e0)) ?_
    refine Chain.op (φ := Is (.slice v3_4a ((if tkB x e ⟨#[107, 101, 121, 105, 100, 115]⟩ (textsE 16) then textsL 16 (getV x ⟨#[107, 101, 121, 105, 100, 115]⟩) else []).length) v3_4c)) (st_is _) (sp_move (Has.base rfl e3)) ?_
    refine Chain.op (φ := Is (.int .i64 (wrongE [] (if tkB x e ⟨#[107, 101, 121, 105, 100, 115]⟩ (textsE 16) then textsL 16 (getV x ⟨#[107, 101, 121, 105, 100, 115]⟩) else [])))) (st_is _) (sp_call1 (φ1 := IsD (SF w [b2_2, bo, bm]) (strsD (if tkB x e ⟨#[107, 101, 121, 105, 100, 115]⟩ (textsE 16) then textsL 16 (getV x ⟨#[107, 101, 121, 105, 100, 115]⟩) else []))) ent34 ((Has.loc rfl).dat D_v3_4 (sub_nlF (by simp))) (fun g u1 W hk hgk h1 => wrong_ok (if tkB x e ⟨#[107, 101, 121, 105, 100, 115]⟩ (textsE 16) then textsL 16 (getV x ⟨#[107, 101, 121, 105, 100, 115]⟩) else []) W _ _ h1)) ?_
    refine Chain.callL2 (φ1 := Is (.pointer (some ⟨bo, 0, none⟩))) (φ2 := Is (.int .i64 (wrongE [] (if tkB x e ⟨#[107, 101, 121, 105, 100, 115]⟩ (textsE 16) then textsL 16 (getV x ⟨#[107, 101, 121, 105, 100, 115]⟩) else [])))) (φ := Is (.tuple #[])) (Ψ' := fun W => Own W bo [(.int .u8 (x.k)), (.int .i64 (x.n)), (.string (x.t)), (.slice cna (x.ns.length) cnc), (.slice cia (x.xs.length) cic), (.map (some bm)), (.int .i64 (failK x.k (failK x.k (tkE x e ⟨#[107, 101, 121, 105, 100, 115]⟩ (textsE 16)) 4) (wrongE [] (if tkB x e ⟨#[107, 101, 121, 105, 100, 115]⟩ (textsE 16) then textsL 16 (getV x ⟨#[107, 101, 121, 105, 100, 115]⟩) else []))))] 69) ent17 (Has.loc rfl) (Has.loc rfl) (st_is _) stE_own (fun g u1 u2 W hk hg h1 h2 hpsi => by have h1 : u1 = _ := h1; subst u1; have h2 : u2 = _ := h2; subst u2; exact (Fail_ok _ _ _ _ _ _ _ (wrongE [] (if tkB x e ⟨#[107, 101, 121, 105, 100, 115]⟩ (textsE 16) then textsL 16 (getV x ⟨#[107, 101, 121, 105, 100, 115]⟩) else [])) W _ hpsi)) ?_
    refine Chain.done ⟨by kernel_rfl, fun a10 g W10 hsz10 hdf10 hk hg henv hrest hpsi => ?_⟩
    obtain ⟨-, -, -, -, -⟩ := henv
    replace e0 := (hrest 0 rfl).trans e0
    replace e2 := (hrest 2 rfl).trans e2
    replace e3 := (hrest 3 rfl).trans e3
    replace D_cn := sa_keepL D_cn hk (by simp)
    replace D_ci := sa_keepL D_ci hk (by simp)
    replace D_v3_4 := sf_keepL D_v3_4 hk (by simp)
    replace own_bm := ownM_keepL own_bm hk (by simp [hne.symm])
    replace own_b2_2 := own_keepL own_b2_2 hk (by simp [ne_bo_b2_2.symm])
    have own_bo := hpsi
    replace own_bo : Own W10 bo [(.int .u8 (x.k)), (.int .i64 (x.n)), (.string (x.t)), (.slice cna (x.ns.length) cnc), (.slice cia (x.xs.length) cic), (.map (some bm)), (.int .i64 (failK x.k (failK x.k (tkE x e ⟨#[107, 101, 121, 105, 100, 115]⟩ (textsE 16)) 4) (wrongE [] (if tkB x e ⟨#[107, 101, 121, 105, 100, 115]⟩ (textsE 16) then textsL 16 (getV x ⟨#[107, 101, 121, 105, 100, 115]⟩) else []))))] 69 := own_bo
    replace kw := keeps_L kw hk (in_cons (.inr (by simp)) in_nil)
    clear hrest hk hg hpsi
    refine tail_nil (hK9 _ _ ?_)
    refine wp_seq_k fun K11 hK11 => ?_
    refine wp_reg (fun k => k ∉ [bo, bm]) (Ψ := fun W => Own W bo [(.int .u8 (x.k)), (.int .i64 (x.n)), (.string (x.t)), (.slice cna (x.ns.length) cnc), (.slice cia (x.xs.length) cic), (.map (some bm)), (.int .i64 (failK x.k (failK x.k (tkE x e ⟨#[107, 101, 121, 105, 100, 115]⟩ (textsE 16)) 4) (wrongE [] (if tkB x e ⟨#[107, 101, 121, 105, 100, 115]⟩ (textsE 16) then textsL 16 (getV x ⟨#[107, 101, 121, 105, 100, 115]⟩) else []))))] 69 ∧ OwnM W bm (tkA x A e ⟨#[107, 101, 121, 105, 100, 115]⟩ (textsE 16))) mixed hsz10 hdf10 (stE_and stE_own stE_ownM) ⟨own_bo, own_bm⟩ ?_
    refine Chain.op (φ := Is (.pointer (some ⟨bo, 0, none⟩))) (st_is _) (sp_move (Has.base rfl e0)) ?_
    refine Chain.op (φ := Is (.slice v3_4a ((if tkB x e ⟨#[107, 101, 121, 105, 100, 115]⟩ (textsE 16) then textsL 16 (getV x ⟨#[107, 101, 121, 105, 100, 115]⟩) else []).length) v3_4c)) (st_is _) (sp_move (Has.base rfl e3)) ?_
    refine Chain.op (φ := Is (.int .i64 ((if tkB x e ⟨#[107, 101, 121, 105, 100, 115]⟩ (textsE 16) then textsL 16 (getV x ⟨#[107, 101, 121, 105, 100, 115]⟩) else []).length))) (st_is _) (sp_lenSs Try.underlying23 ((Has.loc rfl).dat D_v3_4 (sub_nlF (by simp)))) ?_
    refine Chain.callL4 (φ1 := Is (.pointer (some ⟨bo, 0, none⟩))) (φ2 := Is (.string (⟨#[116, 104, 114, 101, 115, 104, 111, 108, 100]⟩))) (φ3 := Is (.int .i64 (1))) (φ4 := Is (.int .i64 ((if tkB x e ⟨#[107, 101, 121, 105, 100, 115]⟩ (textsE 16) then textsL 16 (getV x ⟨#[107, 101, 121, 105, 100, 115]⟩) else []).length))) (φ := Is (.int .i64 (if tkB x (failK x.k (failK x.k (tkE x e ⟨#[107, 101, 121, 105, 100, 115]⟩ (textsE 16)) 4) (wrongE [] (if tkB x e ⟨#[107, 101, 121, 105, 100, 115]⟩ (textsE 16) then textsL 16 (getV x ⟨#[107, 101, 121, 105, 100, 115]⟩) else []))) ⟨#[116, 104, 114, 101, 115, 104, 111, 108, 100]⟩ (numE 1 ((if tkB x e ⟨#[107, 101, 121, 105, 100, 115]⟩ (textsE 16) then textsL 16 (getV x ⟨#[107, 101, 121, 105, 100, 115]⟩) else []).length)) then numV 1 ((if tkB x e ⟨#[107, 101, 121, 105, 100, 115]⟩ (textsE 16) then textsL 16 (getV x ⟨#[107, 101, 121, 105, 100, 115]⟩) else []).length) (getV x ⟨#[116, 104, 114, 101, 115, 104, 111, 108, 100]⟩) else 0))) (Ψ' := fun W => Own W bo [(.int .u8 (x.k)), (.int .i64 (x.n)), (.string (x.t)), (.slice cna (x.ns.length) cnc), (.slice cia (x.xs.length) cic), (.map (some bm)), (.int .i64 (tkE x (failK x.k (failK x.k (tkE x e ⟨#[107, 101, 121, 105, 100, 115]⟩ (textsE 16)) 4) (wrongE [] (if tkB x e ⟨#[107, 101, 121, 105, 100, 115]⟩ (textsE 16) then textsL 16 (getV x ⟨#[107, 101, 121, 105, 100, 115]⟩) else []))) ⟨#[116, 104, 114, 101, 115, 104, 111, 108, 100]⟩ (numE 1 ((if tkB x e ⟨#[107, 101, 121, 105, 100, 115]⟩ (textsE 16) then textsL 16 (getV x ⟨#[107, 101, 121, 105, 100, 115]⟩) else []).length))))] 69 ∧ OwnM W bm (tkA x (tkA x A e ⟨#[107, 101, 121, 105, 100, 115]⟩ (textsE 16)) (failK x.k (failK x.k (tkE x e ⟨#[107, 101, 121, 105, 100, 115]⟩ (textsE 16)) 4) (wrongE [] (if tkB x e ⟨#[107, 101, 121, 105, 100, 115]⟩ (textsE 16) then textsL 16 (getV x ⟨#[107, 101, 121, 105, 100, 115]⟩) else []))) ⟨#[116, 104, 114, 101, 115, 104, 111, 108, 100]⟩ (numE 1 ((if tkB x e ⟨#[107, 101, 121, 105, 100, 115]⟩ (textsE 16) then textsL 16 (getV x ⟨#[107, 101, 121, 105, 100, 115]⟩) else []).length)))) ent38 (Has.loc rfl) Has.cst Has.cst (Has.loc rfl) (st_is _) (stE_and stE_own stE_ownM) (fun g u1 u2 u3 u4 W hk hg h1 h2 h3 h4 hpsi => by have h1 : u1 = _ := h1; subst u1; have h2 : u2 = _ := h2; subst u2; have h3 : u3 = _ := h3; subst u3; have h4 : u4 = _ := h4; subst u4; exact (Num_ok (x) (tkA x A e ⟨#[107, 101, 121, 105, 100, 115]⟩ (textsE 16)) (failK x.k (failK x.k (tkE x e ⟨#[107, 101, 121, 105, 100, 115]⟩ (textsE 16)) 4) (wrongE [] (if tkB x e ⟨#[107, 101, 121, 105, 100, 115]⟩ (textsE 16) then textsL 16 (getV x ⟨#[107, 101, 121, 105, 100, 115]⟩) else []))) (hA.tk.mono (by omega)) hx hxt ⟨#[116, 104, 114, 101, 115, 104, 111, 108, 100]⟩ 1 ((if tkB x e ⟨#[107, 101, 121, 105, 100, 115]⟩ (textsE 16) then textsL 16 (getV x ⟨#[107, 101, 121, 105, 100, 115]⟩) else []).length) W _ _ _ _ _ (sa_cln hS) (sa_notin (by simp)) hne (sa_keepL D_cn hk (by simp)) (sa_keepL D_ci hk (by simp)) hpsi.1 hpsi.2)) ?_
    refine Chain.op (φ := _) (st_is _) (sp_assign (Has.loc rfl)) ?_
    refine Chain.done ⟨by kernel_rfl, fun a12 g W12 hsz12 hdf12 hk hg henv hrest hpsi => ?_⟩
    obtain ⟨e4, -, -, -, -, -⟩ := henv
    replace e0 := (hrest 0 rfl).trans e0
    replace e2 := (hrest 2 rfl).trans e2
    replace e3 := (hrest 3 rfl).trans e3
    have e4 : sl a12 4 = (.int .i64 (if tkB x (failK x.k (failK x.k (tkE x e ⟨#[107, 101, 121, 105, 100, 115]⟩ (textsE 16)) 4) (wrongE [] (if tkB x e ⟨#[107, 101, 121, 105, 100, 115]⟩ (textsE 16) then textsL 16 (getV x ⟨#[107, 101, 121, 105, 100, 115]⟩) else []))) ⟨#[116, 104, 114, 101, 115, 104, 111, 108, 100]⟩ (numE 1 ((if tkB x e ⟨#[107, 101, 121, 105, 100, 115]⟩ (textsE 16) then textsL 16 (getV x ⟨#[107, 101, 121, 105, 100, 115]⟩) else []).length)) then numV 1 ((if tkB x e ⟨#[107, 101, 121, 105, 100, 115]⟩ (textsE 16) then textsL 16 (getV x ⟨#[107, 101, 121, 105, 100, 115]⟩) else []).length) (getV x ⟨#[116, 104, 114, 101, 115, 104, 111, 108, 100]⟩) else 0)) := e4
    replace D_cn := sa_keepL D_cn hk (by simp)
    replace D_ci := sa_keepL D_ci hk (by simp)
    replace D_v3_4 := sf_keepL D_v3_4 hk (by simp)
    replace own_b2_2 := own_keepL own_b2_2 hk (by simp [ne_bo_b2_2.symm, ne_bm_b2_2.symm])
    obtain ⟨own_bo, own_bm⟩ := hpsi
    replace own_bo : Own W12 bo [(.int .u8 (x.k)), (.int .i64 (x.n)), (.string (x.t)), (.slice cna (x.ns.length) cnc), (.slice cia (x.xs.length) cic), (.map (some bm)), (.int .i64 (tkE x (failK x.k (failK x.k (tkE x e ⟨#[107, 101, 121, 105, 100, 115]⟩ (textsE 16)) 4) (wrongE [] (if tkB x e ⟨#[107, 101, 121, 105, 100, 115]⟩ (textsE 16) then textsL 16 (getV x ⟨#[107, 101, 121, 105, 100, 115]⟩) else []))) ⟨#[116, 104, 114, 101, 115, 104, 111, 108, 100]⟩ (numE 1 ((if tkB x e ⟨#[107, 101, 121, 105, 100, 115]⟩ (textsE 16) then textsL 16 (getV x ⟨#[107, 101, 121, 105, 100, 115]⟩) else []).length))))] 69 := own_bo
    replace own_bm : OwnM W12 bm (tkA x (tkA x A e ⟨#[107, 101, 121, 105, 100, 115]⟩ (textsE 16)) (failK x.k (failK x.k (tkE x e ⟨#[107, 101, 121, 105, 100, 115]⟩ (textsE 16)) 4) (wrongE [] (if tkB x e ⟨#[107, 101, 121, 105, 100, 115]⟩ (textsE 16) then textsL 16 (getV x ⟨#[107, 101, 121, 105, 100, 115]⟩) else []))) ⟨#[116, 104, 114, 101, 115, 104, 111, 108, 100]⟩ (numE 1 ((if tkB x e ⟨#[107, 101, 121, 105, 100, 115]⟩ (textsE 16) then textsL 16 (getV x ⟨#[107, 101, 121, 105, 100, 115]⟩) else []).length))) := own_bm
    replace kw := keeps_L kw hk (in_cons (.inr (by simp)) (in_cons (.inr (by simp)) in_nil))
    clear hrest hk hg
    refine tail_nil (hK11 _ _ ?_)
    refine wp_seq_k fun K13 hK13 => ?_
    refine wp_seq_k fun K14 hK14 => ?_
    refine wp_reg All mixed hsz12 hdf12 st_tr trivial ?_
    refine Chain.op (φ := Is (.pointer (some ⟨bo, 0, none⟩))) (st_is _) (sp_move (Has.base rfl e0)) ?_
    refine Chain.op (φ := Is (.int .i64 (errK x.k (tkE x (failK x.k (failK x.k (tkE x e ⟨#[107, 101, 121, 105, 100, 115]⟩ (textsE 16)) 4) (wrongE [] (if tkB x e ⟨#[107, 101, 121, 105, 100, 115]⟩ (textsE 16) then textsL 16 (getV x ⟨#[107, 101, 121, 105, 100, 115]⟩) else []))) ⟨#[116, 104, 114, 101, 115, 104, 111, 108, 100]⟩ (numE 1 ((if tkB x e ⟨#[107, 101, 121, 105, 100, 115]⟩ (textsE 16) then textsL 16 (getV x ⟨#[107, 101, 121, 105, 100, 115]⟩) else []).length)))))) (st_is _) (sp_call1 (φ1 := Is (.pointer (some ⟨bo, 0, none⟩))) ent19 (Has.loc rfl) (fun g u1 W hk hgk h1 => by have h1 : u1 = _ := h1; subst u1; exact Err_ok _ _ _ _ _ _ _ W _ (own_bo.ext hk))) ?_
    refine Chain.op (φ := Is (.bool ((errK x.k (tkE x (failK x.k (failK x.k (tkE x e ⟨#[107, 101, 121, 105, 100, 115]⟩ (textsE 16)) 4) (wrongE [] (if tkB x e ⟨#[107, 101, 121, 105, 100, 115]⟩ (textsE 16) then textsL 16 (getV x ⟨#[107, 101, 121, 105, 100, 115]⟩) else []))) ⟨#[116, 104, 114, 101, 115, 104, 111, 108, 100]⟩ (numE 1 ((if tkB x e ⟨#[107, 101, 121, 105, 100, 115]⟩ (textsE 16) then textsL 16 (getV x ⟨#[107, 101, 121, 105, 100, 115]⟩) else []).length))) : Int) != (0 : Int)))) (st_is _) (sp_neq (Has.loc rfl) Has.cst) ?_
    refine Chain.done ⟨by kernel_rfl, fun a15 g W15 hsz15 hdf15 hk hg henv hrest hpsi => ?_⟩
    obtain ⟨e22, -, -, -⟩ := henv
    replace e2 := (hrest 2 rfl).trans e2
    replace e3 := (hrest 3 rfl).trans e3
    replace e4 := (hrest 4 rfl).trans e4
    replace D_cn := D_cn.ext hk
    replace D_ci := D_ci.ext hk
    replace D_v3_4 := D_v3_4.ext hk
    have e22 : sl a15 22 = (.bool ((errK x.k (tkE x (failK x.k (failK x.k (tkE x e ⟨#[107, 101, 121, 105, 100, 115]⟩ (textsE 16)) 4) (wrongE [] (if tkB x e ⟨#[107, 101, 121, 105, 100, 115]⟩ (textsE 16) then textsL 16 (getV x ⟨#[107, 101, 121, 105, 100, 115]⟩) else []))) ⟨#[116, 104, 114, 101, 115, 104, 111, 108, 100]⟩ (numE 1 ((if tkB x e ⟨#[107, 101, 121, 105, 100, 115]⟩ (textsE 16) then textsL 16 (getV x ⟨#[107, 101, 121, 105, 100, 115]⟩) else []).length))) : Int) != (0 : Int))) := e22
    replace own_bo := own_bo.ext hk
    replace own_bm := own_bm.ext hk
    replace own_b2_2 := own_b2_2.ext hk
    replace kw := kw.trans (.of_ext hk)
    clear hrest hk hg hpsi
    refine tail_nil (hK14 _ _ ?_)
    refine wp_cond_split e22 (fun hc => ?_) (fun hc => ?_)
    · -- T: (errK x.k (tkE x (failK x.k (failK x.k (tkE x e ⟨#[107, 101, 121, 105, 100, 115]
      have hE := bne_iff_ne.1 hc
      refine wp_seq_k fun K16 hK16 => ?_
      refine wp_reg All mixed hsz15 hdf15 st_tr trivial ?_
      refine Chain.op (φ := Is (.agg #[(.int .i64 (0)), (.slice none 0 0)])) (st_is _) (sp_build (vs := []) Try.underlying27 z27 (pl27 Try.underlying27) trivial rfl) ?_
      refine Chain.done ⟨by kernel_rfl, fun a17 g W17 hsz17 hdf17 hk hg henv hrest hpsi => ?_⟩
      obtain ⟨e23, -⟩ := henv
      replace e2 := (hrest 2 rfl).trans e2
      replace D_cn := D_cn.ext hk
      replace D_ci := D_ci.ext hk
      replace D_v3_4 := D_v3_4.ext hk
      have e23 : sl a17 23 = (.agg #[(.int .i64 (0)), (.slice none 0 0)]) := e23
      replace own_bo := own_bo.ext hk
      replace own_bm := own_bm.ext hk
      replace own_b2_2 := own_b2_2.ext hk
      replace kw := kw.trans (.of_ext hk)
      clear hrest hk hg hpsi
      refine tail_store (b := b2_2) (o := 0) (v := (.agg #[(.int .i64 (0)), (.slice none 0 0)])) e2 e23 sz27 rfl own_b2_2 (Nat.le_of_ble_eq_true rfl) (all_cons rfl (all_cons rfl all_nil)) (fun W18 hs own_b2_2 => ?_)
      have own_b2_2 : Own W18 b2_2 [(.int .i64 (0)), (.slice none 0 0)] 27 := own_b2_2
      replace own_bo := own_store own_bo hs ne_bo_b2_2
      replace own_bm := ownM_store own_bm hs ne_bm_b2_2
      replace D_cn := sa_store D_cn hs (by simp)
      replace D_ci := sa_store D_ci hs (by simp)
      replace D_v3_4 := sf_store D_v3_4 hs (by simp)
      replace kw := keeps_store kw hs lo_b2_2
      clear hs
      refine tail_nil (hK16 _ _ ?_)
      refine wp_ret ?_
      refine (show bodyPost Try.prog Try.f18 _ .ret _ _ from retC (v := (.agg #[(.int .i64 (0)), (.slice none 0 0)])) rfl hdf17 e2 own_b2_2 agg27 sz27 rfl (fun h => by cases h) rfl ⟨_, rfl, kw, ?_⟩)
      have hpa : partA x e = ⟨0, []⟩ := by rw [partA, if_pos (by rw [partE, e3P, h2]; exact hE)]
      refine ⟨?_, by rw [partE, e3P, h2]; exact own_bo, by rw [partM, e3P, h2]; exact own_bm⟩
      rw [hpa]
      exact sf_fr (rdAu_mk (rd_nil _) : Rd W18 (SF w [b2_2, bo, bm]) (Au.d (Au.mk (0) ([]))) _)
    · -- E: (errK x.k (tkE x (failK x.k (failK x.k (tkE x e ⟨#[107, 101, 121, 105, 100, 115]
      have hE := bne_eq_false_iff_eq.1 hc
      refine wp_skip (hK13 _ _ ?_)
      refine wp_seq_k fun K19 hK19 => ?_
      refine wp_reg All mixed hsz15 hdf15 st_tr trivial ?_
      refine Chain.op (φ := _) (st_is _) (sp_move (Has.base rfl e4)) ?_
      refine Chain.op (φ := Is (.slice v3_4a ((if tkB x e ⟨#[107, 101, 121, 105, 100, 115]⟩ (textsE 16) then textsL 16 (getV x ⟨#[107, 101, 121, 105, 100, 115]⟩) else []).length) v3_4c)) (st_is _) (sp_move (Has.base rfl e3)) ?_
      refine Chain.op (φ := Is (.agg #[(.int .i64 (if tkB x (failK x.k (failK x.k (tkE x e ⟨#[107, 101, 121, 105, 100, 115]⟩ (textsE 16)) 4) (wrongE [] (if tkB x e ⟨#[107, 101, 121, 105, 100, 115]⟩ (textsE 16) then textsL 16 (getV x ⟨#[107, 101, 121, 105, 100, 115]⟩) else []))) ⟨#[116, 104, 114, 101, 115, 104, 111, 108, 100]⟩ (numE 1 ((if tkB x e ⟨#[107, 101, 121, 105, 100, 115]⟩ (textsE 16) then textsL 16 (getV x ⟨#[107, 101, 121, 105, 100, 115]⟩) else []).length)) then numV 1 ((if tkB x e ⟨#[107, 101, 121, 105, 100, 115]⟩ (textsE 16) then textsL 16 (getV x ⟨#[107, 101, 121, 105, 100, 115]⟩) else []).length) (getV x ⟨#[116, 104, 114, 101, 115, 104, 111, 108, 100]⟩) else 0)), (.slice v3_4a ((if tkB x e ⟨#[107, 101, 121, 105, 100, 115]⟩ (textsE 16) then textsL 16 (getV x ⟨#[107, 101, 121, 105, 100, 115]⟩) else []).length) v3_4c)])) (st_is _) (sp_build (vs := [(0, (.int .i64 (if tkB x (failK x.k (failK x.k (tkE x e ⟨#[107, 101, 121, 105, 100, 115]⟩ (textsE 16)) 4) (wrongE [] (if tkB x e ⟨#[107, 101, 121, 105, 100, 115]⟩ (textsE 16) then textsL 16 (getV x ⟨#[107, 101, 121, 105, 100, 115]⟩) else []))) ⟨#[116, 104, 114, 101, 115, 104, 111, 108, 100]⟩ (numE 1 ((if tkB x e ⟨#[107, 101, 121, 105, 100, 115]⟩ (textsE 16) then textsL 16 (getV x ⟨#[107, 101, 121, 105, 100, 115]⟩) else []).length)) then numV 1 ((if tkB x e ⟨#[107, 101, 121, 105, 100, 115]⟩ (textsE 16) then textsL 16 (getV x ⟨#[107, 101, 121, 105, 100, 115]⟩) else []).length) (getV x ⟨#[116, 104, 114, 101, 115, 104, 111, 108, 100]⟩) else 0))), (1, (.slice v3_4a ((if tkB x e ⟨#[107, 101, 121, 105, 100, 115]⟩ (textsE 16) then textsL 16 (getV x ⟨#[107, 101, 121, 105, 100, 115]⟩) else []).length) v3_4c))]) Try.underlying27 z27 (pl27 Try.underlying27) ⟨rfl, (Has.loc rfl), rfl, (Has.loc rfl), trivial⟩ rfl) ?_
      refine Chain.done ⟨by kernel_rfl, fun a20 g W20 hsz20 hdf20 hk hg henv hrest hpsi => ?_⟩
      obtain ⟨e26, -, -, -⟩ := henv
      replace e2 := (hrest 2 rfl).trans e2
      replace D_cn := D_cn.ext hk
      replace D_ci := D_ci.ext hk
      replace D_v3_4 := D_v3_4.ext hk
      have e26 : sl a20 26 = (.agg #[(.int .i64 (if tkB x (failK x.k (failK x.k (tkE x e ⟨#[107, 101, 121, 105, 100, 115]⟩ (textsE 16)) 4) (wrongE [] (if tkB x e ⟨#[107, 101, 121, 105, 100, 115]⟩ (textsE 16) then textsL 16 (getV x ⟨#[107, 101, 121, 105, 100, 115]⟩) else []))) ⟨#[116, 104, 114, 101, 115, 104, 111, 108, 100]⟩ (numE 1 ((if tkB x e ⟨#[107, 101, 121, 105, 100, 115]⟩ (textsE 16) then textsL 16 (getV x ⟨#[107, 101, 121, 105, 100, 115]⟩) else []).length)) then numV 1 ((if tkB x e ⟨#[107, 101, 121, 105, 100, 115]⟩ (textsE 16) then textsL 16 (getV x ⟨#[107, 101, 121, 105, 100, 115]⟩) else []).length) (getV x ⟨#[116, 104, 114, 101, 115, 104, 111, 108, 100]⟩) else 0)), (.slice v3_4a ((if tkB x e ⟨#[107, 101, 121, 105, 100, 115]⟩ (textsE 16) then textsL 16 (getV x ⟨#[107, 101, 121, 105, 100, 115]⟩) else []).length) v3_4c)]) := e26
      replace own_bo := own_bo.ext hk
      replace own_bm := own_bm.ext hk
      replace own_b2_2 := own_b2_2.ext hk
      replace kw := kw.trans (.of_ext hk)
      clear hrest hk hg hpsi
      refine tail_store (b := b2_2) (o := 0) (v := (.agg #[(.int .i64 (if tkB x (failK x.k (failK x.k (tkE x e ⟨#[107, 101, 121, 105, 100, 115]⟩ (textsE 16)) 4) (wrongE [] (if tkB x e ⟨#[107, 101, 121, 105, 100, 115]⟩ (textsE 16) then textsL 16 (getV x ⟨#[107, 101, 121, 105, 100, 115]⟩) else []))) ⟨#[116, 104, 114, 101, 115, 104, 111, 108, 100]⟩ (numE 1 ((if tkB x e ⟨#[107, 101, 121, 105, 100, 115]⟩ (textsE 16) then textsL 16 (getV x ⟨#[107, 101, 121, 105, 100, 115]⟩) else []).length)) then numV 1 ((if tkB x e ⟨#[107, 101, 121, 105, 100, 115]⟩ (textsE 16) then textsL 16 (getV x ⟨#[107, 101, 121, 105, 100, 115]⟩) else []).length) (getV x ⟨#[116, 104, 114, 101, 115, 104, 111, 108, 100]⟩) else 0)), (.slice v3_4a ((if tkB x e ⟨#[107, 101, 121, 105, 100, 115]⟩ (textsE 16) then textsL 16 (getV x ⟨#[107, 101, 121, 105, 100, 115]⟩) else []).length) v3_4c)])) e2 e26 sz27 rfl own_b2_2 (Nat.le_of_ble_eq_true rfl) (all_cons rfl (all_cons rfl all_nil)) (fun W21 hs own_b2_2 => ?_)
      have own_b2_2 : Own W21 b2_2 [(.int .i64 (if tkB x (failK x.k (failK x.k (tkE x e ⟨#[107, 101, 121, 105, 100, 115]⟩ (textsE 16)) 4) (wrongE [] (if tkB x e ⟨#[107, 101, 121, 105, 100, 115]⟩ (textsE 16) then textsL 16 (getV x ⟨#[107, 101, 121, 105, 100, 115]⟩) else []))) ⟨#[116, 104, 114, 101, 115, 104, 111, 108, 100]⟩ (numE 1 ((if tkB x e ⟨#[107, 101, 121, 105, 100, 115]⟩ (textsE 16) then textsL 16 (getV x ⟨#[107, 101, 121, 105, 100, 115]⟩) else []).length)) then numV 1 ((if tkB x e ⟨#[107, 101, 121, 105, 100, 115]⟩ (textsE 16) then textsL 16 (getV x ⟨#[107, 101, 121, 105, 100, 115]⟩) else []).length) (getV x ⟨#[116, 104, 114, 101, 115, 104, 111, 108, 100]⟩) else 0)), (.slice v3_4a ((if tkB x e ⟨#[107, 101, 121, 105, 100, 115]⟩ (textsE 16) then textsL 16 (getV x ⟨#[107, 101, 121, 105, 100, 115]⟩) else []).length) v3_4c)] 27 := own_b2_2
      replace own_bo := own_store own_bo hs ne_bo_b2_2
      replace own_bm := ownM_store own_bm hs ne_bm_b2_2
      replace D_cn := sa_store D_cn hs (by simp)
      replace D_ci := sa_store D_ci hs (by simp)
      replace D_v3_4 := sf_store D_v3_4 hs (by simp)
      replace kw := keeps_store kw hs lo_b2_2
      clear hs
      refine tail_nil (hK19 _ _ ?_)
      refine wp_ret ?_
      refine (show bodyPost Try.prog Try.f18 _ .ret _ _ from retC (v := (.agg #[(.int .i64 (if tkB x (failK x.k (failK x.k (tkE x e ⟨#[107, 101, 121, 105, 100, 115]⟩ (textsE 16)) 4) (wrongE [] (if tkB x e ⟨#[107, 101, 121, 105, 100, 115]⟩ (textsE 16) then textsL 16 (getV x ⟨#[107, 101, 121, 105, 100, 115]⟩) else []))) ⟨#[116, 104, 114, 101, 115, 104, 111, 108, 100]⟩ (numE 1 ((if tkB x e ⟨#[107, 101, 121, 105, 100, 115]⟩ (textsE 16) then textsL 16 (getV x ⟨#[107, 101, 121, 105, 100, 115]⟩) else []).length)) then numV 1 ((if tkB x e ⟨#[107, 101, 121, 105, 100, 115]⟩ (textsE 16) then textsL 16 (getV x ⟨#[107, 101, 121, 105, 100, 115]⟩) else []).length) (getV x ⟨#[116, 104, 114, 101, 115, 104, 111, 108, 100]⟩) else 0)), (.slice v3_4a ((if tkB x e ⟨#[107, 101, 121, 105, 100, 115]⟩ (textsE 16) then textsL 16 (getV x ⟨#[107, 101, 121, 105, 100, 115]⟩) else []).length) v3_4c)])) rfl hdf20 e2 own_b2_2 agg27 sz27 rfl (fun h => by cases h) rfl ⟨_, rfl, kw, ?_⟩)
      have hpa : partA x e = ⟨thP x e, idsP x e⟩ := by rw [partA, if_neg (by rw [partE, e3P, h2]; exact fun h => h hE)]
      refine ⟨?_, by rw [partE, e3P, h2]; exact own_bo, by rw [partM, e3P, h2]; exact own_bm⟩
      rw [hpa]
      rw [thP, e3P, h2]
      exact sf_fr (rdAu_mk D_v3_4 : Rd W21 (SF w [b2_2, bo, bm]) (Au.d (Au.mk (if tkB x (failK x.k (failK x.k (tkE x e ⟨#[107, 101, 121, 105, 100, 115]⟩ (textsE 16)) 4) (wrongE [] (if tkB x e ⟨#[107, 101, 121, 105, 100, 115]⟩ (textsE 16) then textsL 16 (getV x ⟨#[107, 101, 121, 105, 100, 115]⟩) else []))) ⟨#[116, 104, 114, 101, 115, 104, 111, 108, 100]⟩ (numE 1 ((if tkB x e ⟨#[107, 101, 121, 105, 100, 115]⟩ (textsE 16) then textsL 16 (getV x ⟨#[107, 101, 121, 105, 100, 115]⟩) else []).length)) then numV 1 ((if tkB x e ⟨#[107, 101, 121, 105, 100, 115]⟩ (textsE 16) then textsL 16 (getV x ⟨#[107, 101, 121, 105, 100, 115]⟩) else []).length) (getV x ⟨#[116, 104, 114, 101, 115, 104, 111, 108, 100]⟩) else 0) (if tkB x e ⟨#[107, 101, 121, 105, 100, 115]⟩ (textsE 16) then textsL 16 (getV x ⟨#[107, 101, 121, 105, 100, 115]⟩) else []))) _)
  · -- E: ((if tkB x e ⟨#[107, 101, 121, 105, 100, 115]⟩ (textsE 16) then textsL 16 (getV 
    have hl : ¬ (idsP x e).length = 0 := by have h := ne_of_beq_false hc; unfold idsP; omega
    have h2 : e2P x e = e1P x e := by rw [e2P, if_neg hl]
    refine wp_skip (hK5 _ _ ?_)
    refine wp_seq_k fun K22 hK22 => ?_
    refine wp_reg (fun k => k ∉ [bo]) (Ψ := fun W => Own W bo [(.int .u8 (x.k)), (.int .i64 (x.n)), (.string (x.t)), (.slice cna (x.ns.length) cnc), (.slice cia (x.xs.length) cic), (.map (some bm)), (.int .i64 (tkE x e ⟨#[107, 101, 121, 105, 100, 115]⟩ (textsE 16)))] 69) mixed hsz7 hdf7 stE_own own_bo ?_
    refine Chain.op (φ := Is (.pointer (some ⟨bo, 0, none⟩))) (st_is _) (sp_move (Has.base rfl e0)) ?_
    refine Chain.op (φ := Is (.slice v3_4a ((if tkB x e ⟨#[107, 101, 121, 105, 100, 115]⟩ (textsE 16) then textsL 16 (getV x ⟨#[107, 101, 121, 105, 100, 115]⟩) else []).length) v3_4c)) (st_is _) (sp_move (Has.base rfl e3)) ?_
    refine Chain.op (φ := Is (.int .i64 (wrongE [] (if tkB x e ⟨#[107, 101, 121, 105, 100, 115]⟩ (textsE 16) then textsL 16 (getV x ⟨#[107, 101, 121, 105, 100, 115]⟩) else [])))) (st_is _) (sp_call1 (φ1 := IsD (SF w [b2_2, bo, bm]) (strsD (if tkB x e ⟨#[107, 101, 121, 105, 100, 115]⟩ (textsE 16) then textsL 16 (getV x ⟨#[107, 101, 121, 105, 100, 115]⟩) else []))) ent34 ((Has.loc rfl).dat D_v3_4 (sub_nlF (by simp))) (fun g u1 W hk hgk h1 => wrong_ok (if tkB x e ⟨#[107, 101, 121, 105, 100, 115]⟩ (textsE 16) then textsL 16 (getV x ⟨#[107, 101, 121, 105, 100, 115]⟩) else []) W _ _ h1)) ?_
    refine Chain.callL2 (φ1 := Is (.pointer (some ⟨bo, 0, none⟩))) (φ2 := Is (.int .i64 (wrongE [] (if tkB x e ⟨#[107, 101, 121, 105, 100, 115]⟩ (textsE 16) then textsL 16 (getV x ⟨#[107, 101, 121, 105, 100, 115]⟩) else [])))) (φ := Is (.tuple #[])) (Ψ' := fun W => Own W bo [(.int .u8 (x.k)), (.int .i64 (x.n)), (.string (x.t)), (.slice cna (x.ns.length) cnc), (.slice cia (x.xs.length) cic), (.map (some bm)), (.int .i64 (failK x.k (tkE x e ⟨#[107, 101, 121, 105, 100, 115]⟩ (textsE 16)) (wrongE [] (if tkB x e ⟨#[107, 101, 121, 105, 100, 115]⟩ (textsE 16) then textsL 16 (getV x ⟨#[107, 101, 121, 105, 100, 115]⟩) else []))))] 69) ent17 (Has.loc rfl) (Has.loc rfl) (st_is _) stE_own (fun g u1 u2 W hk hg h1 h2 hpsi => by have h1 : u1 = _ := h1; subst u1; have h2 : u2 = _ := h2; subst u2; exact (Fail_ok _ _ _ _ _ _ _ (wrongE [] (if tkB x e ⟨#[107, 101, 121, 105, 100, 115]⟩ (textsE 16) then textsL 16 (getV x ⟨#[107, 101, 121, 105, 100, 115]⟩) else [])) W _ hpsi)) ?_
    refine Chain.done ⟨by kernel_rfl, fun a23 g W23 hsz23 hdf23 hk hg henv hrest hpsi => ?_⟩
    obtain ⟨-, -, -, -, -⟩ := henv
    replace e0 := (hrest 0 rfl).trans e0
    replace e2 := (hrest 2 rfl).trans e2
    replace e3 := (hrest 3 rfl).trans e3
    replace D_cn := sa_keepL D_cn hk (by simp)
    replace D_ci := sa_keepL D_ci hk (by simp)
    replace D_v3_4 := sf_keepL D_v3_4 hk (by simp)
    replace own_bm := ownM_keepL own_bm hk (by simp [hne.symm])
    replace own_b2_2 := own_keepL own_b2_2 hk (by simp [ne_bo_b2_2.symm])
    have own_bo := hpsi
    replace own_bo : Own W23 bo [(.int .u8 (x.k)), (.int .i64 (x.n)), (.string (x.t)), (.slice cna (x.ns.length) cnc), (.slice cia (x.xs.length) cic), (.map (some bm)), (.int .i64 (failK x.k (tkE x e ⟨#[107, 101, 121, 105, 100, 115]⟩ (textsE 16)) (wrongE [] (if tkB x e ⟨#[107, 101, 121, 105, 100, 115]⟩ (textsE 16) then textsL 16 (getV x ⟨#[107, 101, 121, 105, 100, 115]⟩) else []))))] 69 := own_bo
    replace kw := keeps_L kw hk (in_cons (.inr (by simp)) in_nil)
    clear hrest hk hg hpsi
    refine tail_nil (hK22 _ _ ?_)
    refine wp_seq_k fun K24 hK24 => ?_
    refine wp_reg (fun k => k ∉ [bo, bm]) (Ψ := fun W => Own W bo [(.int .u8 (x.k)), (.int .i64 (x.n)), (.string (x.t)), (.slice cna (x.ns.length) cnc), (.slice cia (x.xs.length) cic), (.map (some bm)), (.int .i64 (failK x.k (tkE x e ⟨#[107, 101, 121, 105, 100, 115]⟩ (textsE 16)) (wrongE [] (if tkB x e ⟨#[107, 101, 121, 105, 100, 115]⟩ (textsE 16) then textsL 16 (getV x ⟨#[107, 101, 121, 105, 100, 115]⟩) else []))))] 69 ∧ OwnM W bm (tkA x A e ⟨#[107, 101, 121, 105, 100, 115]⟩ (textsE 16))) mixed hsz23 hdf23 (stE_and stE_own stE_ownM) ⟨own_bo, own_bm⟩ ?_
    refine Chain.op (φ := Is (.pointer (some ⟨bo, 0, none⟩))) (st_is _) (sp_move (Has.base rfl e0)) ?_
    refine Chain.op (φ := Is (.slice v3_4a ((if tkB x e ⟨#[107, 101, 121, 105, 100, 115]⟩ (textsE 16) then textsL 16 (getV x ⟨#[107, 101, 121, 105, 100, 115]⟩) else []).length) v3_4c)) (st_is _) (sp_move (Has.base rfl e3)) ?_
    refine Chain.op (φ := Is (.int .i64 ((if tkB x e ⟨#[107, 101, 121, 105, 100, 115]⟩ (textsE 16) then textsL 16 (getV x ⟨#[107, 101, 121, 105, 100, 115]⟩) else []).length))) (st_is _) (sp_lenSs Try.underlying23 ((Has.loc rfl).dat D_v3_4 (sub_nlF (by simp)))) ?_
    refine Chain.callL4 (φ1 := Is (.pointer (some ⟨bo, 0, none⟩))) (φ2 := Is (.string (⟨#[116, 104, 114, 101, 115, 104, 111, 108, 100]⟩))) (φ3 := Is (.int .i64 (1))) (φ4 := Is (.int .i64 ((if tkB x e ⟨#[107, 101, 121, 105, 100, 115]⟩ (textsE 16) then textsL 16 (getV x ⟨#[107, 101, 121, 105, 100, 115]⟩) else []).length))) (φ := Is (.int .i64 (if tkB x (failK x.k (tkE x e ⟨#[107, 101, 121, 105, 100, 115]⟩ (textsE 16)) (wrongE [] (if tkB x e ⟨#[107, 101, 121, 105, 100, 115]⟩ (textsE 16) then textsL 16 (getV x ⟨#[107, 101, 121, 105, 100, 115]⟩) else []))) ⟨#[116, 104, 114, 101, 115, 104, 111, 108, 100]⟩ (numE 1 ((if tkB x e ⟨#[107, 101, 121, 105, 100, 115]⟩ (textsE 16) then textsL 16 (getV x ⟨#[107, 101, 121, 105, 100, 115]⟩) else []).length)) then numV 1 ((if tkB x e ⟨#[107, 101, 121, 105, 100, 115]⟩ (textsE 16) then textsL 16 (getV x ⟨#[107, 101, 121, 105, 100, 115]⟩) else []).length) (getV x ⟨#[116, 104, 114, 101, 115, 104, 111, 108, 100]⟩) else 0))) (Ψ' := fun W => Own W bo [(.int .u8 (x.k)), (.int .i64 (x.n)), (.string (x.t)), (.slice cna (x.ns.length) cnc), (.slice cia (x.xs.length) cic), (.map (some bm)), (.int .i64 (tkE x (failK x.k (tkE x e ⟨#[107, 101, 121, 105, 100, 115]⟩ (textsE 16)) (wrongE [] (if tkB x e ⟨#[107, 101, 121, 105, 100, 115]⟩ (textsE 16) then textsL 16 (getV x ⟨#[107, 101, 121, 105, 100, 115]⟩) else []))) ⟨#[116, 104, 114, 101, 115, 104, 111, 108, 100]⟩ (numE 1 ((if tkB x e ⟨#[107, 101, 121, 105, 100, 115]⟩ (textsE 16) then textsL 16 (getV x ⟨#[107, 101, 121, 105, 100, 115]⟩) else []).length))))] 69 ∧ OwnM W bm (tkA x (tkA x A e ⟨#[107, 101, 121, 105, 100, 115]⟩ (textsE 16)) (failK x.k (tkE x e ⟨#[107, 101, 121, 105, 100, 115]⟩ (textsE 16)) (wrongE [] (if tkB x e ⟨#[107, 101, 121, 105, 100, 115]⟩ (textsE 16) then textsL 16 (getV x ⟨#[107, 101, 121, 105, 100, 115]⟩) else []))) ⟨#[116, 104, 114, 101, 115, 104, 111, 108, 100]⟩ (numE 1 ((if tkB x e ⟨#[107, 101, 121, 105, 100, 115]⟩ (textsE 16) then textsL 16 (getV x ⟨#[107, 101, 121, 105, 100, 115]⟩) else []).length)))) ent38 (Has.loc rfl) Has.cst Has.cst (Has.loc rfl) (st_is _) (stE_and stE_own stE_ownM) (fun g u1 u2 u3 u4 W hk hg h1 h2 h3 h4 hpsi => by have h1 : u1 = _ := h1; subst u1; have h2 : u2 = _ := h2; subst u2; have h3 : u3 = _ := h3; subst u3; have h4 : u4 = _ := h4; subst u4; exact (Num_ok (x) (tkA x A e ⟨#[107, 101, 121, 105, 100, 115]⟩ (textsE 16)) (failK x.k (tkE x e ⟨#[107, 101, 121, 105, 100, 115]⟩ (textsE 16)) (wrongE [] (if tkB x e ⟨#[107, 101, 121, 105, 100, 115]⟩ (textsE 16) then textsL 16 (getV x ⟨#[107, 101, 121, 105, 100, 115]⟩) else []))) (hA.tk.mono (by omega)) hx hxt ⟨#[116, 104, 114, 101, 115, 104, 111, 108, 100]⟩ 1 ((if tkB x e ⟨#[107, 101, 121, 105, 100, 115]⟩ (textsE 16) then textsL 16 (getV x ⟨#[107, 101, 121, 105, 100, 115]⟩) else []).length) W _ _ _ _ _ (sa_cln hS) (sa_notin (by simp)) hne (sa_keepL D_cn hk (by simp)) (sa_keepL D_ci hk (by simp)) hpsi.1 hpsi.2)) ?_
    refine Chain.op (φ := _) (st_is _) (sp_assign (Has.loc rfl)) ?_
    refine Chain.done ⟨by kernel_rfl, fun a25 g W25 hsz25 hdf25 hk hg henv hrest hpsi => ?_⟩
    obtain ⟨e4, -, -, -, -, -⟩ := henv
    replace e0 := (hrest 0 rfl).trans e0
    replace e2 := (hrest 2 rfl).trans e2
    replace e3 := (hrest 3 rfl).trans e3
    have e4 : sl a25 4 = (.int .i64 (if tkB x (failK x.k (tkE x e ⟨#[107, 101, 121, 105, 100, 115]⟩ (textsE 16)) (wrongE [] (if tkB x e ⟨#[107, 101, 121, 105, 100, 115]⟩ (textsE 16) then textsL 16 (getV x ⟨#[107, 101, 121, 105, 100, 115]⟩) else []))) ⟨#[116, 104, 114, 101, 115, 104, 111, 108, 100]⟩ (numE 1 ((if tkB x e ⟨#[107, 101, 121, 105, 100, 115]⟩ (textsE 16) then textsL 16 (getV x ⟨#[107, 101, 121, 105, 100, 115]⟩) else []).length)) then numV 1 ((if tkB x e ⟨#[107, 101, 121, 105, 100, 115]⟩ (textsE 16) then textsL 16 (getV x ⟨#[107, 101, 121, 105, 100, 115]⟩) else []).length) (getV x ⟨#[116, 104, 114, 101, 115, 104, 111, 108, 100]⟩) else 0)) := e4
    replace D_cn := sa_keepL D_cn hk (by simp)
    replace D_ci := sa_keepL D_ci hk (by simp)
    replace D_v3_4 := sf_keepL D_v3_4 hk (by simp)
    replace own_b2_2 := own_keepL own_b2_2 hk (by simp [ne_bo_b2_2.symm, ne_bm_b2_2.symm])
    obtain ⟨own_bo, own_bm⟩ := hpsi
    replace own_bo : Own W25 bo [(.int .u8 (x.k)), (.int .i64 (x.n)), (.string (x.t)), (.slice cna (x.ns.length) cnc), (.slice cia (x.xs.length) cic), (.map (some bm)), (.int .i64 (tkE x (failK x.k (tkE x e ⟨#[107, 101, 121, 105, 100, 115]⟩ (textsE 16)) (wrongE [] (if tkB x e ⟨#[107, 101, 121, 105, 100, 115]⟩ (textsE 16) then textsL 16 (getV x ⟨#[107, 101, 121, 105, 100, 115]⟩) else []))) ⟨#[116, 104, 114, 101, 115, 104, 111, 108, 100]⟩ (numE 1 ((if tkB x e ⟨#[107, 101, 121, 105, 100, 115]⟩ (textsE 16) then textsL 16 (getV x ⟨#[107, 101, 121, 105, 100, 115]⟩) else []).length))))] 69 := own_bo
    replace own_bm : OwnM W25 bm (tkA x (tkA x A e ⟨#[107, 101, 121, 105, 100, 115]⟩ (textsE 16)) (failK x.k (tkE x e ⟨#[107, 101, 121, 105, 100, 115]⟩ (textsE 16)) (wrongE [] (if tkB x e ⟨#[107, 101, 121, 105, 100, 115]⟩ (textsE 16) then textsL 16 (getV x ⟨#[107, 101, 121, 105, 100, 115]⟩) else []))) ⟨#[116, 104, 114, 101, 115, 104, 111, 108, 100]⟩ (numE 1 ((if tkB x e ⟨#[107, 101, 121, 105, 100, 115]⟩ (textsE 16) then textsL 16 (getV x ⟨#[107, 101, 121, 105, 100, 115]⟩) else []).length))) := own_bm
    replace kw := keeps_L kw hk (in_cons (.inr (by simp)) (in_cons (.inr (by simp)) in_nil))
    clear hrest hk hg
    refine tail_nil (hK24 _ _ ?_)
    refine wp_seq_k fun K26 hK26 => ?_
    refine wp_seq_k fun K27 hK27 => ?_
    refine wp_reg All mixed hsz25 hdf25 st_tr trivial ?_
    refine Chain.op (φ := Is (.pointer (some ⟨bo, 0, none⟩))) (st_is _) (sp_move (Has.base rfl e0)) ?_
    refine Chain.op (φ := Is (.int .i64 (errK x.k (tkE x (failK x.k (tkE x e ⟨#[107, 101, 121, 105, 100, 115]⟩ (textsE 16)) (wrongE [] (if tkB x e ⟨#[107, 101, 121, 105, 100, 115]⟩ (textsE 16) then textsL 16 (getV x ⟨#[107, 101, 121, 105, 100, 115]⟩) else []))) ⟨#[116, 104, 114, 101, 115, 104, 111, 108, 100]⟩ (numE 1 ((if tkB x e ⟨#[107, 101, 121, 105, 100, 115]⟩ (textsE 16) then textsL 16 (getV x ⟨#[107, 101, 121, 105, 100, 115]⟩) else []).length)))))) (st_is _) (sp_call1 (φ1 := Is (.pointer (some ⟨bo, 0, none⟩))) ent19 (Has.loc rfl) (fun g u1 W hk hgk h1 => by have h1 : u1 = _ := h1; subst u1; exact Err_ok _ _ _ _ _ _ _ W _ (own_bo.ext hk))) ?_
    refine Chain.op (φ := Is (.bool ((errK x.k (tkE x (failK x.k (tkE x e ⟨#[107, 101, 121, 105, 100, 115]⟩ (textsE 16)) (wrongE [] (if tkB x e ⟨#[107, 101, 121, 105, 100, 115]⟩ (textsE 16) then textsL 16 (getV x ⟨#[107, 101, 121, 105, 100, 115]⟩) else []))) ⟨#[116, 104, 114, 101, 115, 104, 111, 108, 100]⟩ (numE 1 ((if tkB x e ⟨#[107, 101, 121, 105, 100, 115]⟩ (textsE 16) then textsL 16 (getV x ⟨#[107, 101, 121, 105, 100, 115]⟩) else []).length))) : Int) != (0 : Int)))) (st_is _) (sp_neq (Has.loc rfl) Has.cst) ?_
    refine Chain.done ⟨by kernel_rfl, fun a28 g W28 hsz28 hdf28 hk hg henv hrest hpsi => ?_⟩
    obtain ⟨e22, -, -, -⟩ := henv
    replace e2 := (hrest 2 rfl).trans e2
    replace e3 := (hrest 3 rfl).trans e3
    replace e4 := (hrest 4 rfl).trans e4
    replace D_cn := D_cn.ext hk
    replace D_ci := D_ci.ext hk
    replace D_v3_4 := D_v3_4.ext hk
    have e22 : sl a28 22 = (.bool ((errK x.k (tkE x (failK x.k (tkE x e ⟨#[107, 101, 121, 105, 100, 115]⟩ (textsE 16)) (wrongE [] (if tkB x e ⟨#[107, 101, 121, 105, 100, 115]⟩ (textsE 16) then textsL 16 (getV x ⟨#[107, 101, 121, 105, 100, 115]⟩) else []))) ⟨#[116, 104, 114, 101, 115, 104, 111, 108, 100]⟩ (numE 1 ((if tkB x e ⟨#[107, 101, 121, 105, 100, 115]⟩ (textsE 16) then textsL 16 (getV x ⟨#[107, 101, 121, 105, 100, 115]⟩) else []).length))) : Int) != (0 : Int))) := e22
    replace own_bo := own_bo.ext hk
    replace own_bm := own_bm.ext hk
    replace own_b2_2 := own_b2_2.ext hk
    replace kw := kw.trans (.of_ext hk)
    clear hrest hk hg hpsi
    refine tail_nil (hK27 _ _ ?_)
    refine wp_cond_split e22 (fun hc => ?_) (fun hc => ?_)
    · -- T: (errK x.k (tkE x (failK x.k (tkE x e ⟨#[107, 101, 121, 105, 100, 115]⟩ (textsE 1
      have hE := bne_iff_ne.1 hc
      refine wp_seq_k fun K29 hK29 => ?_
      refine wp_reg All mixed hsz28 hdf28 st_tr trivial ?_
      refine Chain.op (φ := Is (.agg #[(.int .i64 (0)), (.slice none 0 0)])) (st_is _) (sp_build (vs := []) Try.underlying27 z27 (pl27 Try.underlying27) trivial rfl) ?_
      refine Chain.done ⟨by kernel_rfl, fun a30 g W30 hsz30 hdf30 hk hg henv hrest hpsi => ?_⟩
      obtain ⟨e23, -⟩ := henv
      replace e2 := (hrest 2 rfl).trans e2
      replace D_cn := D_cn.ext hk
      replace D_ci := D_ci.ext hk
      replace D_v3_4 := D_v3_4.ext hk
      have e23 : sl a30 23 = (.agg #[(.int .i64 (0)), (.slice none 0 0)]) := e23
      replace own_bo := own_bo.ext hk
      replace own_bm := own_bm.ext hk
      replace own_b2_2 := own_b2_2.ext hk
      replace kw := kw.trans (.of_ext hk)
      clear hrest hk hg hpsi
      refine tail_store (b := b2_2) (o := 0) (v := (.agg #[(.int .i64 (0)), (.slice none 0 0)])) e2 e23 sz27 rfl own_b2_2 (Nat.le_of_ble_eq_true rfl) (all_cons rfl (all_cons rfl all_nil)) (fun W31 hs own_b2_2 => ?_)
      have own_b2_2 : Own W31 b2_2 [(.int .i64 (0)), (.slice none 0 0)] 27 := own_b2_2
      replace own_bo := own_store own_bo hs ne_bo_b2_2
      replace own_bm := ownM_store own_bm hs ne_bm_b2_2
      replace D_cn := sa_store D_cn hs (by simp)
      replace D_ci := sa_store D_ci hs (by simp)
      replace D_v3_4 := sf_store D_v3_4 hs (by simp)
      replace kw := keeps_store kw hs lo_b2_2
      clear hs
      refine tail_nil (hK29 _ _ ?_)
      refine wp_ret ?_
      refine (show bodyPost Try.prog Try.f18 _ .ret _ _ from retC (v := (.agg #[(.int .i64 (0)), (.slice none 0 0)])) rfl hdf30 e2 own_b2_2 agg27 sz27 rfl (fun h => by cases h) rfl ⟨_, rfl, kw, ?_⟩)
      have hpa : partA x e = ⟨0, []⟩ := by rw [partA, if_pos (by rw [partE, e3P, h2]; exact hE)]
      refine ⟨?_, by rw [partE, e3P, h2]; exact own_bo, by rw [partM, e3P, h2]; exact own_bm⟩
      rw [hpa]
      exact sf_fr (rdAu_mk (rd_nil _) : Rd W31 (SF w [b2_2, bo, bm]) (Au.d (Au.mk (0) ([]))) _)
    · -- E: (errK x.k (tkE x (failK x.k (tkE x e ⟨#[107, 101, 121, 105, 100, 115]⟩ (textsE 1
      have hE := bne_eq_false_iff_eq.1 hc
      refine wp_skip (hK26 _ _ ?_)
      refine wp_seq_k fun K32 hK32 => ?_
      refine wp_reg All mixed hsz28 hdf28 st_tr trivial ?_
      refine Chain.op (φ := _) (st_is _) (sp_move (Has.base rfl e4)) ?_
      refine Chain.op (φ := Is (.slice v3_4a ((if tkB x e ⟨#[107, 101, 121, 105, 100, 115]⟩ (textsE 16) then textsL 16 (getV x ⟨#[107, 101, 121, 105, 100, 115]⟩) else []).length) v3_4c)) (st_is _) (sp_move (Has.base rfl e3)) ?_
      refine Chain.op (φ := Is (.agg #[(.int .i64 (if tkB x (failK x.k (tkE x e ⟨#[107, 101, 121, 105, 100, 115]⟩ (textsE 16)) (wrongE [] (if tkB x e ⟨#[107, 101, 121, 105, 100, 115]⟩ (textsE 16) then textsL 16 (getV x ⟨#[107, 101, 121, 105, 100, 115]⟩) else []))) ⟨#[116, 104, 114, 101, 115, 104, 111, 108, 100]⟩ (numE 1 ((if tkB x e ⟨#[107, 101, 121, 105, 100, 115]⟩ (textsE 16) then textsL 16 (getV x ⟨#[107, 101, 121, 105, 100, 115]⟩) else []).length)) then numV 1 ((if tkB x e ⟨#[107, 101, 121, 105, 100, 115]⟩ (textsE 16) then textsL 16 (getV x ⟨#[107, 101, 121, 105, 100, 115]⟩) else []).length) (getV x ⟨#[116, 104, 114, 101, 115, 104, 111, 108, 100]⟩) else 0)), (.slice v3_4a ((if tkB x e ⟨#[107, 101, 121, 105, 100, 115]⟩ (textsE 16) then textsL 16 (getV x ⟨#[107, 101, 121, 105, 100, 115]⟩) else []).length) v3_4c)])) (st_is _) (sp_build (vs := [(0, (.int .i64 (if tkB x (failK x.k (tkE x e ⟨#[107, 101, 121, 105, 100, 115]⟩ (textsE 16)) (wrongE [] (if tkB x e ⟨#[107, 101, 121, 105, 100, 115]⟩ (textsE 16) then textsL 16 (getV x ⟨#[107, 101, 121, 105, 100, 115]⟩) else []))) ⟨#[116, 104, 114, 101, 115, 104, 111, 108, 100]⟩ (numE 1 ((if tkB x e ⟨#[107, 101, 121, 105, 100, 115]⟩ (textsE 16) then textsL 16 (getV x ⟨#[107, 101, 121, 105, 100, 115]⟩) else []).length)) then numV 1 ((if tkB x e ⟨#[107, 101, 121, 105, 100, 115]⟩ (textsE 16) then textsL 16 (getV x ⟨#[107, 101, 121, 105, 100, 115]⟩) else []).length) (getV x ⟨#[116, 104, 114, 101, 115, 104, 111, 108, 100]⟩) else 0))), (1, (.slice v3_4a ((if tkB x e ⟨#[107, 101, 121, 105, 100, 115]⟩ (textsE 16) then textsL 16 (getV x ⟨#[107, 101, 121, 105, 100, 115]⟩) else []).length) v3_4c))]) Try.underlying27 z27 (pl27 Try.underlying27) ⟨rfl, (Has.loc rfl), rfl, (Has.loc rfl), trivial⟩ rfl) ?_
      refine Chain.done ⟨by kernel_rfl, fun a33 g W33 hsz33 hdf33 hk hg henv hrest hpsi => ?_⟩
      obtain ⟨e26, -, -, -⟩ := henv
      replace e2 := (hrest 2 rfl).trans e2
      replace D_cn := D_cn.ext hk
      replace D_ci := D_ci.ext hk
      replace D_v3_4 := D_v3_4.ext hk
      have e26 : sl a33 26 = (.agg #[(.int .i64 (if tkB x (failK x.k (tkE x e ⟨#[107, 101, 121, 105, 100, 115]⟩ (textsE 16)) (wrongE [] (if tkB x e ⟨#[107, 101, 121, 105, 100, 115]⟩ (textsE 16) then textsL 16 (getV x ⟨#[107, 101, 121, 105, 100, 115]⟩) else []))) ⟨#[116, 104, 114, 101, 115, 104, 111, 108, 100]⟩ (numE 1 ((if tkB x e ⟨#[107, 101, 121, 105, 100, 115]⟩ (textsE 16) then textsL 16 (getV x ⟨#[107, 101, 121, 105, 100, 115]⟩) else []).length)) then numV 1 ((if tkB x e ⟨#[107, 101, 121, 105, 100, 115]⟩ (textsE 16) then textsL 16 (getV x ⟨#[107, 101, 121, 105, 100, 115]⟩) else []).length) (getV x ⟨#[116, 104, 114, 101, 115, 104, 111, 108, 100]⟩) else 0)), (.slice v3_4a ((if tkB x e ⟨#[107, 101, 121, 105, 100, 115]⟩ (textsE 16) then textsL 16 (getV x ⟨#[107, 101, 121, 105, 100, 115]⟩) else []).length) v3_4c)]) := e26
      replace own_bo := own_bo.ext hk
      replace own_bm := own_bm.ext hk
      replace own_b2_2 := own_b2_2.ext hk
      replace kw := kw.trans (.of_ext hk)
      clear hrest hk hg hpsi
      refine tail_store (b := b2_2) (o := 0) (v := (.agg #[(.int .i64 (if tkB x (failK x.k (tkE x e ⟨#[107, 101, 121, 105, 100, 115]⟩ (textsE 16)) (wrongE [] (if tkB x e ⟨#[107, 101, 121, 105, 100, 115]⟩ (textsE 16) then textsL 16 (getV x ⟨#[107, 101, 121, 105, 100, 115]⟩) else []))) ⟨#[116, 104, 114, 101, 115, 104, 111, 108, 100]⟩ (numE 1 ((if tkB x e ⟨#[107, 101, 121, 105, 100, 115]⟩ (textsE 16) then textsL 16 (getV x ⟨#[107, 101, 121, 105, 100, 115]⟩) else []).length)) then numV 1 ((if tkB x e ⟨#[107, 101, 121, 105, 100, 115]⟩ (textsE 16) then textsL 16 (getV x ⟨#[107, 101, 121, 105, 100, 115]⟩) else []).length) (getV x ⟨#[116, 104, 114, 101, 115, 104, 111, 108, 100]⟩) else 0)), (.slice v3_4a ((if tkB x e ⟨#[107, 101, 121, 105, 100, 115]⟩ (textsE 16) then textsL 16 (getV x ⟨#[107, 101, 121, 105, 100, 115]⟩) else []).length) v3_4c)])) e2 e26 sz27 rfl own_b2_2 (Nat.le_of_ble_eq_true rfl) (all_cons rfl (all_cons rfl all_nil)) (fun W34 hs own_b2_2 => ?_)
      have own_b2_2 : Own W34 b2_2 [(.int .i64 (if tkB x (failK x.k (tkE x e ⟨#[107, 101, 121, 105, 100, 115]⟩ (textsE 16)) (wrongE [] (if tkB x e ⟨#[107, 101, 121, 105, 100, 115]⟩ (textsE 16) then textsL 16 (getV x ⟨#[107, 101, 121, 105, 100, 115]⟩) else []))) ⟨#[116, 104, 114, 101, 115, 104, 111, 108, 100]⟩ (numE 1 ((if tkB x e ⟨#[107, 101, 121, 105, 100, 115]⟩ (textsE 16) then textsL 16 (getV x ⟨#[107, 101, 121, 105, 100, 115]⟩) else []).length)) then numV 1 ((if tkB x e ⟨#[107, 101, 121, 105, 100, 115]⟩ (textsE 16) then textsL 16 (getV x ⟨#[107, 101, 121, 105, 100, 115]⟩) else []).length) (getV x ⟨#[116, 104, 114, 101, 115, 104, 111, 108, 100]⟩) else 0)), (.slice v3_4a ((if tkB x e ⟨#[107, 101, 121, 105, 100, 115]⟩ (textsE 16) then textsL 16 (getV x ⟨#[107, 101, 121, 105, 100, 115]⟩) else []).length) v3_4c)] 27 := own_b2_2
      replace own_bo := own_store own_bo hs ne_bo_b2_2
      replace own_bm := ownM_store own_bm hs ne_bm_b2_2
      replace D_cn := sa_store D_cn hs (by simp)
      replace D_ci := sa_store D_ci hs (by simp)
      replace D_v3_4 := sf_store D_v3_4 hs (by simp)
      replace kw := keeps_store kw hs lo_b2_2
      clear hs
      refine tail_nil (hK32 _ _ ?_)
      refine wp_ret ?_
      refine (show bodyPost Try.prog Try.f18 _ .ret _ _ from retC (v := (.agg #[(.int .i64 (if tkB x (failK x.k (tkE x e ⟨#[107, 101, 121, 105, 100, 115]⟩ (textsE 16)) (wrongE [] (if tkB x e ⟨#[107, 101, 121, 105, 100, 115]⟩ (textsE 16) then textsL 16 (getV x ⟨#[107, 101, 121, 105, 100, 115]⟩) else []))) ⟨#[116, 104, 114, 101, 115, 104, 111, 108, 100]⟩ (numE 1 ((if tkB x e ⟨#[107, 101, 121, 105, 100, 115]⟩ (textsE 16) then textsL 16 (getV x ⟨#[107, 101, 121, 105, 100, 115]⟩) else []).length)) then numV 1 ((if tkB x e ⟨#[107, 101, 121, 105, 100, 115]⟩ (textsE 16) then textsL 16 (getV x ⟨#[107, 101, 121, 105, 100, 115]⟩) else []).length) (getV x ⟨#[116, 104, 114, 101, 115, 104, 111, 108, 100]⟩) else 0)), (.slice v3_4a ((if tkB x e ⟨#[107, 101, 121, 105, 100, 115]⟩ (textsE 16) then textsL 16 (getV x ⟨#[107, 101, 121, 105, 100, 115]⟩) else []).length) v3_4c)])) rfl hdf33 e2 own_b2_2 agg27 sz27 rfl (fun h => by cases h) rfl ⟨_, rfl, kw, ?_⟩)
      have hpa : partA x e = ⟨thP x e, idsP x e⟩ := by rw [partA, if_neg (by rw [partE, e3P, h2]; exact fun h => h hE)]
      refine ⟨?_, by rw [partE, e3P, h2]; exact own_bo, by rw [partM, e3P, h2]; exact own_bm⟩
      rw [hpa]
      rw [thP, e3P, h2]
      exact sf_fr (rdAu_mk D_v3_4 : Rd W34 (SF w [b2_2, bo, bm]) (Au.d (Au.mk (if tkB x (failK x.k (tkE x e ⟨#[107, 101, 121, 105, 100, 115]⟩ (textsE 16)) (wrongE [] (if tkB x e ⟨#[107, 101, 121, 105, 100, 115]⟩ (textsE 16) then textsL 16 (getV x ⟨#[107, 101, 121, 105, 100, 115]⟩) else []))) ⟨#[116, 104, 114, 101, 115, 104, 111, 108, 100]⟩ (numE 1 ((if tkB x e ⟨#[107, 101, 121, 105, 100, 115]⟩ (textsE 16) then textsL 16 (getV x ⟨#[107, 101, 121, 105, 100, 115]⟩) else []).length)) then numV 1 ((if tkB x e ⟨#[107, 101, 121, 105, 100, 115]⟩ (textsE 16) then textsL 16 (getV x ⟨#[107, 101, 121, 105, 100, 115]⟩) else []).length) (getV x ⟨#[116, 104, 114, 101, 115, 104, 111, 108, 100]⟩) else 0) (if tkB x e ⟨#[107, 101, 121, 105, 100, 115]⟩ (textsE 16) then textsL 16 (getV x ⟨#[107, 101, 121, 105, 100, 115]⟩) else []))) _)

end Go.Proofs.Ytipdogbeoflkoaa
