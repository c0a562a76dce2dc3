/-
  The law AuthTells of package legatelaw15 returns true for every input, and leaves its arguments as they were. No condition beyond the row's own.
-/
import Derived.Test.YtnobijngkpflcaaAt3
import Derived.Shelf.SlSortCmp.InsertionK
import Derived.Lib.Bytealg
import Derived.Laws.StructEq
namespace Go.Proofs.Ytnobijngkpflcaa
open Go.Eng
set_option maxRecDepth 100000 in
theorem takeSD_ok (k : Nat) (n : Int) (t : ByteArray) (cn ci mv : Value) (e : Int) (hE : errK k e ≠ 0) (name : ByteArray) (fv : Value) (w : World) (bo : Nat) (own_bo : Own w bo [.int .u8 k, .int .i64 n, .string t, cn, ci, mv, .int .i64 e] 74) : Calls Try.prog 98 #[.pointer (some ⟨bo, 0, none⟩), .string name, fv] w (Ret w fun u _ => u = .slice none 0 0) := by
  refine enter Try.func98 rfl Try.ntmps98 (lbr rfl) fun a0 y0 zz0 harg => ?_
  have e0 : sl a0 0 = (.pointer (some ⟨bo, 0, none⟩)) := harg 0 (lbr rfl)
  have e1 : sl a0 1 = (.string (name)) := harg 1 (lbr rfl)
  have e2 : sl a0 2 = fv := harg 2 (lbr rfl)
  have kw := Keeps.refl All w
  clear harg
  refine wp_seq_k fun K1 hK1 => ?_
  refine rg mixed y0 zz0 ?_
  refine .i (sp_assign Has.cst) ?_
  refine .done ⟨by kernel_rfl, fun a2 g W2 y2 zz2 hk hg hV hR hP => ?_⟩
  obtain ⟨-, -⟩ := hV
  replace e0 := (hR 0 rfl).trans e0
  replace e1 := (hR 1 rfl).trans e1
  replace e2 := (hR 2 rfl).trans e2
  replace own_bo := own_bo.ext hk
  replace kw := kw.x hk
  clear hR hk hg hP
  refine tail_nil (hK1 _ _ ?_)
  refine wp_seq_k fun K3 hK3 => ?_
  refine rg mixed y2 zz2 ?_
  refine .i (sp_assign Has.cst) ?_
  refine .done ⟨by kernel_rfl, fun a4 g W4 y4 zz4 hk hg hV hR hP => ?_⟩
  obtain ⟨e7, -⟩ := hV
  replace e0 := (hR 0 rfl).trans e0
  replace e1 := (hR 1 rfl).trans e1
  replace e2 := (hR 2 rfl).trans e2
  have e7 : sl a4 7 = (.slice none 0 0) := e7
  replace own_bo := own_bo.ext hk
  replace kw := kw.x hk
  clear hR hk hg hP
  refine tail_nil (hK3 _ _ ?_)
  refine wp_seq_k fun K5 hK5 => ?_
  refine wp_seq_k fun K6 hK6 => ?_
  refine rg mixed y4 zz4 ?_
  refine .i (sp_move (hbs rfl e0)) ?_
  refine .i (v := (.int .i64 (errK (k : Nat) e))) (sp_call1 (φ1 := Is (.pointer (some ⟨bo, 0, none⟩))) ent24 (hlc rfl) (fun g u1 W hk hgk h1 => by have h1 : u1 = _ := h1; subst u1; exact Err_ok _ _ _ _ _ _ _ W _ (own_bo.ext hk))) ?_
  refine .i (sp_neq (hlc rfl) Has.cst) ?_
  refine .done ⟨by kernel_rfl, fun a7 g W7 y7 zz7 hk hg hV hR hP => ?_⟩
  obtain ⟨e14, -, -, -⟩ := hV
  replace e0 := (hR 0 rfl).trans e0
  replace e1 := (hR 1 rfl).trans e1
  replace e2 := (hR 2 rfl).trans e2
  replace e7 := (hR 7 rfl).trans e7
  replace e14 := e14.q
  replace own_bo := own_bo.ext hk
  replace kw := kw.x hk
  clear hR hk hg hP
  refine tail_nil (hK6 _ _ ?_)
  refine wp_cond_split e14 (fun hc => ?_) (fun hc => ?_)
  ·
   refine wp_seq_k fun K8 hK8 => ?_
   refine rg mixed y7 zz7 ?_
   refine .i (sp_move (hbs rfl e7)) ?_
   refine .i (sp_assign (hlc rfl)) ?_
   refine .done ⟨by kernel_rfl, fun a9 g W9 y9 zz9 hk hg hV hR hP => ?_⟩
   obtain ⟨e6, -, -⟩ := hV
   have e6 : sl a9 6 = (.slice none 0 0) := e6
   replace own_bo := own_bo.ext hk
   replace kw := kw.x hk
   clear hR hk hg hP
   refine tail_nil (hK8 _ _ ?_)
   refine wp_ret ?_
   refine (show bodyPost Try.prog Try.f98 _ .ret _ _ from ret1 rfl zz9 e6 ⟨_, rfl, kw, ?_⟩)
   exact rfl
  ·
   exfalso
   exact hE (by simpa using hc)
set_option maxRecDepth 100000 in
theorem takeID_ok (k : Nat) (n : Int) (t : ByteArray) (cn ci mv : Value) (e : Int) (hE : errK k e ≠ 0) (name : ByteArray) (fv : Value) (w : World) (bo : Nat) (own_bo : Own w bo [.int .u8 k, .int .i64 n, .string t, cn, ci, mv, .int .i64 e] 74) : Calls Try.prog 104 #[.pointer (some ⟨bo, 0, none⟩), .string name, fv] w (Ret w fun u _ => u = .int .i64 0) := by
  refine enter Try.func104 rfl Try.ntmps104 (lbr rfl) fun a0 y0 zz0 harg => ?_
  have e0 : sl a0 0 = (.pointer (some ⟨bo, 0, none⟩)) := harg 0 (lbr rfl)
  have e1 : sl a0 1 = (.string (name)) := harg 1 (lbr rfl)
  have e2 : sl a0 2 = fv := harg 2 (lbr rfl)
  have kw := Keeps.refl All w
  clear harg
  refine wp_seq_k fun K1 hK1 => ?_
  refine rg mixed y0 zz0 ?_
  refine .i (sp_assign Has.cst) ?_
  refine .done ⟨by kernel_rfl, fun a2 g W2 y2 zz2 hk hg hV hR hP => ?_⟩
  obtain ⟨-, -⟩ := hV
  replace e0 := (hR 0 rfl).trans e0
  replace e1 := (hR 1 rfl).trans e1
  replace e2 := (hR 2 rfl).trans e2
  replace own_bo := own_bo.ext hk
  replace kw := kw.x hk
  clear hR hk hg hP
  refine tail_nil (hK1 _ _ ?_)
  refine wp_seq_k fun K3 hK3 => ?_
  refine rg mixed y2 zz2 ?_
  refine .i (sp_assign Has.cst) ?_
  refine .done ⟨by kernel_rfl, fun a4 g W4 y4 zz4 hk hg hV hR hP => ?_⟩
  obtain ⟨e7, -⟩ := hV
  replace e0 := (hR 0 rfl).trans e0
  replace e1 := (hR 1 rfl).trans e1
  replace e2 := (hR 2 rfl).trans e2
  have e7 : sl a4 7 = (.int .i64 (0)) := e7
  replace own_bo := own_bo.ext hk
  replace kw := kw.x hk
  clear hR hk hg hP
  refine tail_nil (hK3 _ _ ?_)
  refine wp_seq_k fun K5 hK5 => ?_
  refine wp_seq_k fun K6 hK6 => ?_
  refine rg mixed y4 zz4 ?_
  refine .i (sp_move (hbs rfl e0)) ?_
  refine .i (v := (.int .i64 (errK (k : Nat) e))) (sp_call1 (φ1 := Is (.pointer (some ⟨bo, 0, none⟩))) ent24 (hlc rfl) (fun g u1 W hk hgk h1 => by have h1 : u1 = _ := h1; subst u1; exact Err_ok _ _ _ _ _ _ _ W _ (own_bo.ext hk))) ?_
  refine .i (sp_neq (hlc rfl) Has.cst) ?_
  refine .done ⟨by kernel_rfl, fun a7 g W7 y7 zz7 hk hg hV hR hP => ?_⟩
  obtain ⟨e14, -, -, -⟩ := hV
  replace e0 := (hR 0 rfl).trans e0
  replace e1 := (hR 1 rfl).trans e1
  replace e2 := (hR 2 rfl).trans e2
  replace e7 := (hR 7 rfl).trans e7
  replace e14 := e14.q
  replace own_bo := own_bo.ext hk
  replace kw := kw.x hk
  clear hR hk hg hP
  refine tail_nil (hK6 _ _ ?_)
  refine wp_cond_split e14 (fun hc => ?_) (fun hc => ?_)
  ·
   refine wp_seq_k fun K8 hK8 => ?_
   refine rg mixed y7 zz7 ?_
   refine .i (sp_move (hbs rfl e7)) ?_
   refine .i (sp_assign (hlc rfl)) ?_
   refine .done ⟨by kernel_rfl, fun a9 g W9 y9 zz9 hk hg hV hR hP => ?_⟩
   obtain ⟨e6, -, -⟩ := hV
   have e6 : sl a9 6 = (.int .i64 (0)) := e6
   replace own_bo := own_bo.ext hk
   replace kw := kw.x hk
   clear hR hk hg hP
   refine tail_nil (hK8 _ _ ?_)
   refine wp_ret ?_
   refine (show bodyPost Try.prog Try.f104 _ .ret _ _ from ret1 rfl zz9 e6 ⟨_, rfl, kw, ?_⟩)
   exact rfl
  ·
   exfalso
   exact hE (by simpa using hc)
set_option maxRecDepth 100000 in
theorem TextsD_ok (k : Nat) (n : Int) (t : ByteArray) (cn ci mv : Value) (e : Int) (hE : errK k e ≠ 0) (name : ByteArray) (most : Int) (w : World) (bo : Nat) (own_bo : Own w bo [.int .u8 k, .int .i64 n, .string t, cn, ci, mv, .int .i64 e] 74) : Calls Try.prog 41 #[.pointer (some ⟨bo, 0, none⟩), .string name, .int .i64 most] w (Ret w fun u _ => u = .slice none 0 0) := by
  refine enter Try.func41 rfl Try.ntmps41 (lbr rfl) fun a0 y0 zz0 harg => ?_
  have e0 : sl a0 0 = (.pointer (some ⟨bo, 0, none⟩)) := harg 0 (lbr rfl)
  have e1 : sl a0 1 = (.string (name)) := harg 1 (lbr rfl)
  have e2 : sl a0 2 = (.int .i64 (most)) := harg 2 (lbr rfl)
  have kw := Keeps.refl All w
  clear harg
  refine wp_seq_k fun K1 hK1 => ?_
  refine rg mixed y0 zz0 ?_
  refine .boxOp (v := (.int .i64 (most))) (hbs rfl e2) ?_
  refine .i (sp_assign Has.cst) ?_
  refine .done ⟨by kernel_rfl, fun a2 g W2 y2 zz2 hk hg hV hR hP => ?_⟩
  obtain ⟨-, ⟨b5_2, e5, hb5, own_b5_2⟩, -⟩ := hV
  have lo_b5_2 : w.heap.size ≤ b5_2 := Nat.le_trans kw.size (hg.lo _ _ hb5)
  have ne_bo_b5_2 : bo ≠ b5_2 := Nat.ne_of_lt (Nat.lt_of_lt_of_le own_bo.lt (hg.lo _ _ hb5))
  have own_b5_2 : Own W2 b5_2 [(.int .i64 (most))] 3 := own_b5_2
  replace e0 := (hR 0 rfl).trans e0
  replace e1 := (hR 1 rfl).trans e1
  replace own_bo := own_bo.ext hk
  replace kw := kw.x hk
  clear hR hk hg hP hb5
  refine tail_nil (hK1 _ _ ?_)
  refine wp_seq_k fun K3 hK3 => ?_
  refine rg mixed y2 zz2 ?_
  refine .i (sp_move (hbs rfl e0)) ?_
  refine .i (sp_move (hbs rfl e1)) ?_
  refine .i (v := (.func (.func 99) #[] #[(.pointer (some ⟨b5_2, 0, none⟩))])) (sp_mkF1 (hbs rfl e5)) ?_
  refine .i (v := (.slice none 0 0)) (sp_call3 (φ1 := Is (.pointer (some ⟨bo, 0, none⟩))) (φ2 := Is (.string (name))) (φ3 := Is (.func (.func 99) #[] #[(.pointer (some ⟨b5_2, 0, none⟩))])) ent98 (hlc rfl) (hlc rfl) (hlc rfl) (fun g u1 u2 u3 W hk hgk h1 h2 h3 => by have h1 : u1 = _ := h1; subst u1; have h2 : u2 = _ := h2; subst u2; have h3 : u3 = _ := h3; subst u3; exact takeSD_ok _ _ _ _ _ _ _ hE _ _ W _ (own_bo.ext hk))) ?_
  refine .i (sp_assign (hlc rfl)) ?_
  refine .done ⟨by kernel_rfl, fun a4 g W4 y4 zz4 hk hg hV hR hP => ?_⟩
  obtain ⟨e6, -, -, -, -, -⟩ := hV
  have e6 : sl a4 6 = (.slice none 0 0) := e6
  replace own_bo := own_bo.ext hk
  replace own_b5_2 := own_b5_2.ext hk
  replace kw := kw.x hk
  clear hR hk hg hP
  refine tail_nil (hK3 _ _ ?_)
  refine wp_ret ?_
  refine (show bodyPost Try.prog Try.f41 _ .ret _ _ from ret1 rfl zz4 e6 ⟨_, rfl, kw, ?_⟩)
  exact rfl
set_option maxRecDepth 100000 in
theorem NumD_ok (k : Nat) (n : Int) (t : ByteArray) (cn ci mv : Value) (e : Int) (hE : errK k e ≠ 0) (name : ByteArray) (lo hi : Int) (w : World) (bo : Nat) (own_bo : Own w bo [.int .u8 k, .int .i64 n, .string t, cn, ci, mv, .int .i64 e] 74) : Calls Try.prog 44 #[.pointer (some ⟨bo, 0, none⟩), .string name, .int .i64 lo, .int .i64 hi] w (Ret w fun u _ => u = .int .i64 0) := by
  refine enter Try.func44 rfl Try.ntmps44 (lbr rfl) fun a0 y0 zz0 harg => ?_
  have e0 : sl a0 0 = (.pointer (some ⟨bo, 0, none⟩)) := harg 0 (lbr rfl)
  have e1 : sl a0 1 = (.string (name)) := harg 1 (lbr rfl)
  have e2 : sl a0 2 = (.int .i64 (lo)) := harg 2 (lbr rfl)
  have e3 : sl a0 3 = (.int .i64 (hi)) := harg 3 (lbr rfl)
  have kw := Keeps.refl All w
  clear harg
  refine wp_seq_k fun K1 hK1 => ?_
  refine rg mixed y0 zz0 ?_
  refine .boxOp (v := (.int .i64 (lo))) (hbs rfl e2) ?_
  refine .boxOp (v := (.int .i64 (hi))) (hbs rfl e3) ?_
  refine .i (sp_assign Has.cst) ?_
  refine .done ⟨by kernel_rfl, fun a2 g W2 y2 zz2 hk hg hV hR hP => ?_⟩
  obtain ⟨-, ⟨b7_2, e7, hb7, own_b7_2⟩, ⟨b6_2, e6, hb6, own_b6_2⟩, -⟩ := hV
  have lo_b7_2 : w.heap.size ≤ b7_2 := Nat.le_trans kw.size (hg.lo _ _ hb7)
  have ne_bo_b7_2 : bo ≠ b7_2 := Nat.ne_of_lt (Nat.lt_of_lt_of_le own_bo.lt (hg.lo _ _ hb7))
  have own_b7_2 : Own W2 b7_2 [(.int .i64 (hi))] 2 := own_b7_2
  have lo_b6_2 : w.heap.size ≤ b6_2 := Nat.le_trans kw.size (hg.lo _ _ hb6)
  have ne_bo_b6_2 : bo ≠ b6_2 := Nat.ne_of_lt (Nat.lt_of_lt_of_le own_bo.lt (hg.lo _ _ hb6))
  have own_b6_2 : Own W2 b6_2 [(.int .i64 (lo))] 2 := own_b6_2
  have ne_b7_2_b6_2 : b7_2 ≠ b6_2 := fun h => by have := hg.inj _ _ _ hb7 (h ▸ hb6); cases this
  replace e0 := (hR 0 rfl).trans e0
  replace e1 := (hR 1 rfl).trans e1
  replace own_bo := own_bo.ext hk
  replace kw := kw.x hk
  clear hR hk hg hP hb7 hb6
  refine tail_nil (hK1 _ _ ?_)
  refine wp_seq_k fun K3 hK3 => ?_
  refine rg mixed y2 zz2 ?_
  refine .i (sp_move (hbs rfl e0)) ?_
  refine .i (sp_move (hbs rfl e1)) ?_
  refine .i (v := (.func (.func 105) #[] #[(.pointer (some ⟨b6_2, 0, none⟩)), (.pointer (some ⟨b7_2, 0, none⟩))])) (sp_mkF2 (hbs rfl e6) (hbs rfl e7)) ?_
  refine .i (v := (.int .i64 (0))) (sp_call3 (φ1 := Is (.pointer (some ⟨bo, 0, none⟩))) (φ2 := Is (.string (name))) (φ3 := Is (.func (.func 105) #[] #[(.pointer (some ⟨b6_2, 0, none⟩)), (.pointer (some ⟨b7_2, 0, none⟩))])) ent104 (hlc rfl) (hlc rfl) (hlc rfl) (fun g u1 u2 u3 W hk hgk h1 h2 h3 => by have h1 : u1 = _ := h1; subst u1; have h2 : u2 = _ := h2; subst u2; have h3 : u3 = _ := h3; subst u3; exact takeID_ok _ _ _ _ _ _ _ hE _ _ W _ (own_bo.ext hk))) ?_
  refine .i (sp_assign (hlc rfl)) ?_
  refine .done ⟨by kernel_rfl, fun a4 g W4 y4 zz4 hk hg hV hR hP => ?_⟩
  obtain ⟨e8, -, -, -, -, -⟩ := hV
  have e8 : sl a4 8 = (.int .i64 (0)) := e8
  replace own_bo := own_bo.ext hk
  replace own_b7_2 := own_b7_2.ext hk
  replace own_b6_2 := own_b6_2.ext hk
  replace kw := kw.x hk
  clear hR hk hg hP
  refine tail_nil (hK3 _ _ ?_)
  refine wp_ret ?_
  refine (show bodyPost Try.prog Try.f44 _ .ret _ _ from ret1 rfl zz4 e8 ⟨_, rfl, kw, ?_⟩)
  exact rfl
set_option maxRecDepth 100000 in
theorem DoneD_ok (k : Nat) (n : Int) (t : ByteArray) (cn ci mv : Value) (e : Int) (hE : errK k e ≠ 0) (w : World) (bo : Nat) (own_bo : Own w bo [.int .u8 k, .int .i64 n, .string t, cn, ci, mv, .int .i64 e] 74) : Calls Try.prog 32 #[.pointer (some ⟨bo, 0, none⟩)] w (Ret w fun u _ => u = .int .i64 (errK k e)) := by
  refine enter Try.func32 rfl Try.ntmps32 (lbr rfl) fun a0 y0 zz0 harg => ?_
  have e0 : sl a0 0 = (.pointer (some ⟨bo, 0, none⟩)) := harg 0 (lbr rfl)
  have kw := Keeps.refl All w
  clear harg
  refine wp_seq_k fun K1 hK1 => ?_
  refine rg mixed y0 zz0 ?_
  refine .i (sp_assign Has.cst) ?_
  refine .done ⟨by kernel_rfl, fun a2 g W2 y2 zz2 hk hg hV hR hP => ?_⟩
  obtain ⟨-, -⟩ := hV
  replace e0 := (hR 0 rfl).trans e0
  replace own_bo := own_bo.ext hk
  replace kw := kw.x hk
  clear hR hk hg hP
  refine tail_nil (hK1 _ _ ?_)
  refine wp_seq_k fun K3 hK3 => ?_
  refine wp_seq_k fun K4 hK4 => ?_
  refine rg mixed y2 zz2 ?_
  refine .i (sp_move (hbs rfl e0)) ?_
  refine .i (v := (.int .i64 (errK (k : Nat) e))) (sp_call1 (φ1 := Is (.pointer (some ⟨bo, 0, none⟩))) ent24 (hlc rfl) (fun g u1 W hk hgk h1 => by have h1 : u1 = _ := h1; subst u1; exact Err_ok _ _ _ _ _ _ _ W _ (own_bo.ext hk))) ?_
  refine .i (sp_assign (hlc rfl)) ?_
  refine .done ⟨by kernel_rfl, fun a5 g W5 y5 zz5 hk hg hV hR hP => ?_⟩
  obtain ⟨e3, -, -, -⟩ := hV
  replace e0 := (hR 0 rfl).trans e0
  have e3 : sl a5 3 = (.int .i64 (errK (k : Nat) e)) := e3
  replace own_bo := own_bo.ext hk
  replace kw := kw.x hk
  clear hR hk hg hP
  refine tail_nil (hK4 _ _ ?_)
  refine wp_seq_k fun K6 hK6 => ?_
  refine rg mixed y5 zz5 ?_
  refine .i (sp_move (hbs rfl e3)) ?_
  refine .i (sp_neq (hlc rfl) Has.cst) ?_
  refine .done ⟨by kernel_rfl, fun a7 g W7 y7 zz7 hk hg hV hR hP => ?_⟩
  obtain ⟨e9, -, -⟩ := hV
  replace e0 := (hR 0 rfl).trans e0
  replace e3 := (hR 3 rfl).trans e3
  replace e9 := e9.q
  replace own_bo := own_bo.ext hk
  replace kw := kw.x hk
  clear hR hk hg hP
  refine tail_nil (hK6 _ _ ?_)
  refine wp_cond_split e9 (fun hc => ?_) (fun hc => ?_)
  ·
   refine wp_seq_k fun K8 hK8 => ?_
   refine rg mixed y7 zz7 ?_
   refine .i (sp_move (hbs rfl e3)) ?_
   refine .i (sp_assign (hlc rfl)) ?_
   refine .done ⟨by kernel_rfl, fun a9 g W9 y9 zz9 hk hg hV hR hP => ?_⟩
   obtain ⟨e2, -, -⟩ := hV
   have e2 : sl a9 2 = (.int .i64 (errK (k : Nat) e)) := e2
   replace own_bo := own_bo.ext hk
   replace kw := kw.x hk
   clear hR hk hg hP
   refine tail_nil (hK8 _ _ ?_)
   refine wp_ret ?_
   refine (show bodyPost Try.prog Try.f32 _ .ret _ _ from ret1 rfl zz9 e2 ⟨_, rfl, kw, ?_⟩)
   exact rfl
  ·
   exfalso
   exact hE (by simpa using hc)
set_option maxRecDepth 100000 in
theorem PartD_ok (k : Nat) (n : Int) (t : ByteArray) (cn ci mv : Value) (e : Int) (hE : errK k e ≠ 0) (w : World) (bo : Nat) (own_bo : Own w bo [.int .u8 k, .int .i64 n, .string t, cn, ci, mv, .int .i64 e] 74) : Calls Try.prog 23 #[.pointer (some ⟨bo, 0, none⟩)] w (RetL w [bo] fun u W => u = .agg #[.int .i64 0, .slice none 0 0] ∧ Own W bo [.int .u8 k, .int .i64 n, .string t, cn, ci, mv, .int .i64 e] 74) := by
  refine enter Try.func23 rfl Try.ntmps23 (lbr rfl) fun a0 y0 zz0 harg => ?_
  have e0 : sl a0 0 = (.pointer (some ⟨bo, 0, none⟩)) := harg 0 (lbr rfl)
  have kw := Keeps.refl (fun k => k ∉ [bo]) w
  clear harg
  refine wp_seq_k fun K1 hK1 => ?_
  refine rg mixed y0 zz0 ?_
  refine .alloc z27 ?_
  refine .done ⟨by kernel_rfl, fun a2 g W2 y2 zz2 hk hg hV hR hP => ?_⟩
  obtain ⟨⟨b2_2, e2, hb2, own_b2_2⟩, -⟩ := hV
  have lo_b2_2 : w.heap.size ≤ b2_2 := Nat.le_trans kw.size (hg.lo _ _ hb2)
  have ne_bo_b2_2 : bo ≠ b2_2 := Nat.ne_of_lt (Nat.lt_of_lt_of_le own_bo.lt (hg.lo _ _ hb2))
  have own_b2_2 : Own W2 b2_2 [(.int .i64 (0)), (.slice none 0 0)] 27 := own_b2_2
  replace e0 := (hR 0 rfl).trans e0
  replace own_bo := own_bo.ext hk
  replace kw := kw.x hk
  clear hR hk hg hP hb2
  refine tail_nil (hK1 _ _ ?_)
  refine wp_seq_k fun K3 hK3 => ?_
  refine rg mixed y2 zz2 ?_
  refine .i (sp_move (hbs rfl e0)) ?_
  refine .i (v := (.slice none 0 0)) (sp_call3 (φ1 := Is (.pointer (some ⟨bo, 0, none⟩))) (φ2 := Is (.string (⟨#[107, 101, 121, 105, 100, 115]⟩))) (φ3 := Is (.int .i64 (16))) ent41 (hlc rfl) Has.cst Has.cst (fun g u1 u2 u3 W hk hgk h1 h2 h3 => by have h1 : u1 = _ := h1; subst u1; have h2 : u2 = _ := h2; subst u2; have h3 : u3 = _ := h3; subst u3; exact TextsD_ok _ _ _ _ _ _ _ hE _ _ W _ (own_bo.ext hk))) ?_
  refine .i (sp_assign (hlc rfl)) ?_
  refine .done ⟨by kernel_rfl, fun a4 g W4 y4 zz4 hk hg hV hR hP => ?_⟩
  obtain ⟨e3, -, -, -⟩ := hV
  replace e0 := (hR 0 rfl).trans e0
  replace e2 := (hR 2 rfl).trans e2
  have e3 : sl a4 3 = (.slice none 0 0) := e3
  replace own_bo := own_bo.ext hk
  replace own_b2_2 := own_b2_2.ext hk
  replace kw := kw.x hk
  clear hR hk hg hP
  refine tail_nil (hK3 _ _ ?_)
  refine wp_seq_k fun K5 hK5 => ?_
  refine wp_seq_k fun K6 hK6 => ?_
  refine rg mixed y4 zz4 ?_
  refine .i (sp_move (hbs rfl e3)) ?_
  refine .i (sp_lenV Try.underlying23 (hlc rfl)) ?_
  refine .i (sp_eql (hlc rfl) Has.cst) ?_
  refine .done ⟨by kernel_rfl, fun a7 g W7 y7 zz7 hk hg hV hR hP => ?_⟩
  obtain ⟨e9, -, -, -⟩ := hV
  replace e0 := (hR 0 rfl).trans e0
  replace e2 := (hR 2 rfl).trans e2
  replace e3 := (hR 3 rfl).trans e3
  replace e9 := e9.q
  replace own_bo := own_bo.ext hk
  replace own_b2_2 := own_b2_2.ext hk
  replace kw := kw.x hk
  clear hR hk hg hP
  refine tail_nil (hK6 _ _ ?_)
  refine wp_cond_true (e9.trans (congrArg Value.bool (by decide))) ?_
  refine wp_reg (fun k => k ∉ [bo]) (Ψ := fun W => Own W bo [(.int .u8 ((k : Nat))), (.int .i64 (n)), (.string (t)), cn, ci, mv, (.int .i64 (e))] 74) mixed y7 zz7 stE_own own_bo ?_
  refine .i (sp_move (hbs rfl e0)) ?_
  refine .callL2 (φ1 := Is (.pointer (some ⟨bo, 0, none⟩))) (φ2 := Is (.int .i64 (4))) (φ := Is (.tuple #[])) (Ψ' := fun W => Own W bo [(.int .u8 ((k : Nat))), (.int .i64 (n)), (.string (t)), cn, ci, mv, (.int .i64 (e))] 74) ent22 (hlc rfl) Has.cst (st_is _) stE_own (fun g u1 u2 W hk hg h1 h2 hP => by have h1 : u1 = _ := h1; subst u1; have h2 : u2 = _ := h2; subst u2; exact (Fail_ok _ _ _ _ _ _ _ (4) W _ hP).mono (fun _ _ ⟨v, h1, h2, h3, h4⟩ => ⟨v, h1, h2, h3, by rw [failK_dead hE] at h4; exact h4⟩)) ?_
  refine .done ⟨by kernel_rfl, fun a8 g W8 y8 zz8 hk hg hV hR hP => ?_⟩
  obtain ⟨-, -, -⟩ := hV
  replace e0 := (hR 0 rfl).trans e0
  replace e2 := (hR 2 rfl).trans e2
  replace e3 := (hR 3 rfl).trans e3
  replace own_b2_2 := own_keepL own_b2_2 hk (by simp [ne_bo_b2_2.symm])
  have own_bo := hP
  replace own_bo : Own W8 bo [(.int .u8 ((k : Nat))), (.int .i64 (n)), (.string (t)), cn, ci, mv, (.int .i64 (e))] 74 := own_bo
  replace kw := keeps_L kw hk (in_cons (.inr (by simp)) in_nil)
  clear hR hk hg hP
  refine tail_nil (hK5 _ _ ?_)
  refine wp_seq_k fun K9 hK9 => ?_
  refine wp_reg (fun k => k ∉ [bo]) (Ψ := fun W => Own W bo [(.int .u8 ((k : Nat))), (.int .i64 (n)), (.string (t)), cn, ci, mv, (.int .i64 (e))] 74) mixed y8 zz8 stE_own own_bo ?_
  refine .i (sp_move (hbs rfl e0)) ?_
  refine .i (sp_move (hbs rfl e3)) ?_
  refine .i (v := (.int .i64 (wrongE [] ([])))) (sp_call1 (φ1 := IsD (SF w [b2_2, bo]) (strsD ([]))) ent77 ((hlc rfl).dat (rd_nil _ : Rd W8 (SF w [b2_2, bo]) (strsD ([])) _) (sub_nlF (by simp))) (fun g u1 W hk hgk h1 => wrong_ok ([]) W _ _ h1)) ?_
  refine .callL2 (φ1 := Is (.pointer (some ⟨bo, 0, none⟩))) (φ2 := Is (.int .i64 (wrongE [] ([])))) (φ := Is (.tuple #[])) (Ψ' := fun W => Own W bo [(.int .u8 ((k : Nat))), (.int .i64 (n)), (.string (t)), cn, ci, mv, (.int .i64 (e))] 74) ent22 (hlc rfl) (hlc rfl) (st_is _) stE_own (fun g u1 u2 W hk hg h1 h2 hP => by have h1 : u1 = _ := h1; subst u1; have h2 : u2 = _ := h2; subst u2; exact (Fail_ok _ _ _ _ _ _ _ (wrongE [] ([])) W _ hP).mono (fun _ _ ⟨v, h1, h2, h3, h4⟩ => ⟨v, h1, h2, h3, by rw [failK_dead hE] at h4; exact h4⟩)) ?_
  refine .done ⟨by kernel_rfl, fun a10 g W10 y10 zz10 hk hg hV hR hP => ?_⟩
  obtain ⟨-, -, -, -, -⟩ := hV
  replace e0 := (hR 0 rfl).trans e0
  replace e2 := (hR 2 rfl).trans e2
  replace e3 := (hR 3 rfl).trans e3
  replace own_b2_2 := own_keepL own_b2_2 hk (by simp [ne_bo_b2_2.symm])
  have own_bo := hP
  replace own_bo : Own W10 bo [(.int .u8 ((k : Nat))), (.int .i64 (n)), (.string (t)), cn, ci, mv, (.int .i64 (e))] 74 := own_bo
  replace kw := keeps_L kw hk (in_cons (.inr (by simp)) in_nil)
  clear hR hk hg hP
  refine tail_nil (hK9 _ _ ?_)
  refine wp_seq_k fun K11 hK11 => ?_
  refine rg mixed y10 zz10 ?_
  refine .i (sp_move (hbs rfl e0)) ?_
  refine .i (sp_move (hbs rfl e3)) ?_
  refine .i (sp_lenV Try.underlying23 (hlc rfl)) ?_
  refine .i (v := (.int .i64 (0))) (sp_call4 (φ1 := Is (.pointer (some ⟨bo, 0, none⟩))) (φ2 := Is (.string (⟨#[116, 104, 114, 101, 115, 104, 111, 108, 100]⟩))) (φ3 := Is (.int .i64 (1))) (φ4 := Is (.int .i64 (((0 : Nat) : Int)))) ent44 (hlc rfl) Has.cst Has.cst (hlc rfl) (fun g u1 u2 u3 u4 W hk hgk h1 h2 h3 h4 => by have h1 : u1 = _ := h1; subst u1; have h2 : u2 = _ := h2; subst u2; have h3 : u3 = _ := h3; subst u3; have h4 : u4 = _ := h4; subst u4; exact NumD_ok _ _ _ _ _ _ _ hE _ _ _ W _ (own_bo.ext hk))) ?_
  refine .i (sp_assign (hlc rfl)) ?_
  refine .done ⟨by kernel_rfl, fun a12 g W12 y12 zz12 hk hg hV hR hP => ?_⟩
  obtain ⟨e4, -, -, -, -, -⟩ := hV
  replace e0 := (hR 0 rfl).trans e0
  replace e2 := (hR 2 rfl).trans e2
  replace e3 := (hR 3 rfl).trans e3
  have e4 : sl a12 4 = (.int .i64 (0)) := e4
  replace own_bo := own_bo.ext hk
  replace own_b2_2 := own_b2_2.ext hk
  replace kw := kw.x hk
  clear hR hk hg hP
  refine tail_nil (hK11 _ _ ?_)
  refine wp_seq_k fun K13 hK13 => ?_
  refine wp_seq_k fun K14 hK14 => ?_
  refine rg mixed y12 zz12 ?_
  refine .i (sp_move (hbs rfl e0)) ?_
  refine .i (v := (.int .i64 (errK (k : Nat) e))) (sp_call1 (φ1 := Is (.pointer (some ⟨bo, 0, none⟩))) ent24 (hlc rfl) (fun g u1 W hk hgk h1 => by have h1 : u1 = _ := h1; subst u1; exact Err_ok _ _ _ _ _ _ _ W _ (own_bo.ext hk))) ?_
  refine .i (sp_neq (hlc rfl) Has.cst) ?_
  refine .done ⟨by kernel_rfl, fun a15 g W15 y15 zz15 hk hg hV hR hP => ?_⟩
  obtain ⟨e22, -, -, -⟩ := hV
  replace e2 := (hR 2 rfl).trans e2
  replace e3 := (hR 3 rfl).trans e3
  replace e4 := (hR 4 rfl).trans e4
  replace e22 := e22.q
  replace own_bo := own_bo.ext hk
  replace own_b2_2 := own_b2_2.ext hk
  replace kw := kw.x hk
  clear hR hk hg hP
  refine tail_nil (hK14 _ _ ?_)
  refine wp_cond_split e22 (fun hc => ?_) (fun hc => ?_)
  ·
   refine wp_seq_k fun K16 hK16 => ?_
   refine rg mixed y15 zz15 ?_
   refine .i (v := (.agg #[(.int .i64 (0)), (.slice none 0 0)])) (sp_build (vs := []) Try.underlying27 z27 (pl27 Try.underlying27) trivial rfl) ?_
   refine .done ⟨by kernel_rfl, fun a17 g W17 y17 zz17 hk hg hV hR hP => ?_⟩
   obtain ⟨e23, -⟩ := hV
   replace e2 := (hR 2 rfl).trans e2
   replace e23 := e23.q
   replace own_bo := own_bo.ext hk
   replace own_b2_2 := own_b2_2.ext hk
   replace kw := kw.x hk
   clear hR hk hg hP
   refine tail_store (b := b2_2) (o := 0) (v := (.agg #[(.int .i64 (0)), (.slice none 0 0)])) e2 e23 sz27 rfl own_b2_2 (lbr rfl) (all_cons rfl (all_cons rfl all_nil)) (fun W18 hs own_b2_2 => ?_)
   have own_b2_2 : Own W18 b2_2 [(.int .i64 (0)), (.slice none 0 0)] 27 := own_b2_2
   replace own_bo := own_store own_bo hs ne_bo_b2_2
   replace kw := keeps_store kw hs lo_b2_2
   clear hs
   refine tail_nil (hK16 _ _ ?_)
   refine wp_ret ?_
   refine (show bodyPost Try.prog Try.f23 _ .ret _ _ from retC (v := (.agg #[(.int .i64 (0)), (.slice none 0 0)])) rfl zz17 e2 own_b2_2 agg27 sz27 rfl (fun h => by cases h) rfl ⟨_, rfl, kw, ?_⟩)
   exact ⟨rfl, own_bo⟩
  ·
   exfalso
   exact hE (by simpa using hc)
set_option maxRecDepth 100000 in
theorem Part_ok (x : V) (A : As) (e : Int) (hA : AB 1000 A) (hx : x.wt ≤ 1073741824) (hxt : x.t.size ≤ maxLen) (w : World) (S : BSet) (cn ci : Value) (bo bm : Nat) (hS : ∀ b o, S b o → Cln o) (hM : ∀ b ∈ [bo, bm], ∀ o, ¬ S b o) (hne : bo ≠ bm) (hv : Rd w S (strsD x.ns) cn) (hu : Rd w S (valsD x.xs) ci) (own_bo : Own w bo [.int .u8 x.k, .int .i64 x.n, .string x.t, cn, ci, .map (some bm), .int .i64 (e)] 74) (own_bm : OwnM w bm A) : Calls Try.prog 23 #[.pointer (some ⟨bo, 0, none⟩)] w (RetL w [bo, bm] fun u W => Rd W (Fr w) (partA x e).d u ∧ Own W bo [.int .u8 x.k, .int .i64 x.n, .string x.t, cn, ci, .map (some bm), .int .i64 (partE x e)] 74 ∧ OwnM W bm (partM x A e)) := by
  obtain ⟨cna, cnc, ev, D_cn⟩ := rdS_out (rd_argM (M := [bo, bm]) hv hM)
  subst ev
  obtain ⟨cia, cic, ev, D_ci⟩ := rdVs_out (rd_argM (M := [bo, bm]) hu hM)
  subst ev
  refine enter Try.func23 rfl Try.ntmps23 (lbr rfl) fun a0 y0 zz0 harg => ?_
  have e0 : sl a0 0 = (.pointer (some ⟨bo, 0, none⟩)) := harg 0 (lbr rfl)
  have kw := Keeps.refl (fun k => k ∉ [bo, bm]) w
  clear harg
  refine wp_seq_k fun K1 hK1 => ?_
  refine rg mixed y0 zz0 ?_
  refine .alloc z27 ?_
  refine .done ⟨by kernel_rfl, fun a2 g W2 y2 zz2 hk hg hV hR hP => ?_⟩
  obtain ⟨⟨b2_2, e2, hb2, own_b2_2⟩, -⟩ := hV
  have lo_b2_2 : w.heap.size ≤ b2_2 := Nat.le_trans kw.size (hg.lo _ _ hb2)
  have ne_bo_b2_2 : bo ≠ b2_2 := Nat.ne_of_lt (Nat.lt_of_lt_of_le own_bo.lt (hg.lo _ _ hb2))
  have ne_bm_b2_2 : bm ≠ b2_2 := Nat.ne_of_lt (Nat.lt_of_lt_of_le own_bm.lt (hg.lo _ _ hb2))
  have own_b2_2 : Own W2 b2_2 [(.int .i64 (0)), (.slice none 0 0)] 27 := own_b2_2
  replace e0 := (hR 0 rfl).trans e0
  replace D_cn := sa_more D_cn hk [b2_2] (in_cons (hg.lo _ _ hb2) in_nil)
  replace D_ci := sa_more D_ci hk [b2_2] (in_cons (hg.lo _ _ hb2) in_nil)
  replace own_bo := own_bo.ext hk
  replace own_bm := own_bm.ext hk
  replace kw := kw.x hk
  clear hR hk hg hP hb2
  refine tail_nil (hK1 _ _ ?_)
  refine wp_seq_k fun K3 hK3 => ?_
  refine wp_reg (fun k => k ∉ [bo, bm]) (Ψ := fun W => Own W bo [(.int .u8 (x.k)), (.int .i64 (x.n)), (.string (x.t)), (.slice cna (x.ns.length) cnc), (.slice cia (x.xs.length) cic), (.map (some bm)), (.int .i64 (e))] 74 ∧ OwnM W bm (A)) mixed y2 zz2 (stE_and stE_own stE_ownM) ⟨own_bo, own_bm⟩ ?_
  refine .i (sp_move (hbs rfl e0)) ?_
  refine .callL3 (φ1 := Is (.pointer (some ⟨bo, 0, none⟩))) (φ2 := Is (.string (⟨#[107, 101, 121, 105, 100, 115]⟩))) (φ3 := Is (.int .i64 (16))) (φ := IsD (Fr W2) (strsD (if tkB x e ⟨#[107, 101, 121, 105, 100, 115]⟩ (textsE 16) then textsL 16 (getV x ⟨#[107, 101, 121, 105, 100, 115]⟩) else []))) (Ψ' := fun W => Own W bo [(.int .u8 (x.k)), (.int .i64 (x.n)), (.string (x.t)), (.slice cna (x.ns.length) cnc), (.slice cia (x.xs.length) cic), (.map (some bm)), (.int .i64 (tkE x e ⟨#[107, 101, 121, 105, 100, 115]⟩ (textsE 16)))] 74 ∧ OwnM W bm (tkA x A e ⟨#[107, 101, 121, 105, 100, 115]⟩ (textsE 16))) ent41 (hlc rfl) Has.cst Has.cst (st_d (sub_frnl (in_cons own_bo.lt (in_cons own_bm.lt in_nil)))) (stE_and stE_own stE_ownM) (fun g u1 u2 u3 W hk hg h1 h2 h3 hP => by have h1 : u1 = _ := h1; subst u1; have h2 : u2 = _ := h2; subst u2; have h3 : u3 = _ := h3; subst u3; exact (Texts_ok (x) (A) (e) (hA.mono (by omega)) hx hxt ⟨#[107, 101, 121, 105, 100, 115]⟩ 16 W _ _ _ _ _ (sa_cln hS) (sa_notin (by simp)) hne (sa_keepL D_cn hk (by simp)) (sa_keepL D_ci hk (by simp)) hP.1 hP.2).mono (fun _ _ ⟨v, h1, h2, h3, h4⟩ => ⟨v, h1, h2, fresh_d hk hg h3, h4⟩)) ?_
  refine .op (φ := IsD (Fr W2) (strsD (if tkB x e ⟨#[107, 101, 121, 105, 100, 115]⟩ (textsE 16) then textsL 16 (getV x ⟨#[107, 101, 121, 105, 100, 115]⟩) else []))) (st_d (sub_frnl (in_cons own_bo.lt (in_cons own_bm.lt in_nil)))) (sp_assign (hlc rfl)) ?_
  refine .done ⟨by kernel_rfl, fun a4 g W4 y4 zz4 hk hg hV hR hP => ?_⟩
  obtain ⟨e3, -, -, -⟩ := hV
  replace e0 := (hR 0 rfl).trans e0
  replace e2 := (hR 2 rfl).trans e2
  obtain ⟨v3_4, ev⟩ : ∃ v, sl a4 3 = v := ⟨_, rfl⟩
  rw [ev] at e3
  have D_v3_4 : Rd W4 (SF w [b2_2, bo, bm]) (strsD (if tkB x e ⟨#[107, 101, 121, 105, 100, 115]⟩ (textsE 16) then textsL 16 (getV x ⟨#[107, 101, 121, 105, 100, 115]⟩) else [])) v3_4 := fr_end (M := [b2_2, bo, bm]) e3 kw [] in_nil (in_cons own_b2_2.lt (in_cons own_bo.lt (in_cons own_bm.lt in_nil)))
  replace e3 := ev; clear ev
  obtain ⟨v3_4a, v3_4c, ev, D2⟩ := rdS_out D_v3_4
  subst ev; replace D_v3_4 := D2; clear D2
  replace D_cn := sa_keepL D_cn hk (by simp)
  replace D_ci := sa_keepL D_ci hk (by simp)
  replace own_b2_2 := own_keepL own_b2_2 hk (by simp [ne_bo_b2_2.symm, ne_bm_b2_2.symm])
  obtain ⟨own_bo, own_bm⟩ := hP
  replace own_bo : Own W4 bo [(.int .u8 (x.k)), (.int .i64 (x.n)), (.string (x.t)), (.slice cna (x.ns.length) cnc), (.slice cia (x.xs.length) cic), (.map (some bm)), (.int .i64 (tkE x e ⟨#[107, 101, 121, 105, 100, 115]⟩ (textsE 16)))] 74 := own_bo
  replace own_bm : OwnM W4 bm (tkA x A e ⟨#[107, 101, 121, 105, 100, 115]⟩ (textsE 16)) := own_bm
  replace kw := keeps_L kw hk (in_cons (.inr (by simp)) (in_cons (.inr (by simp)) in_nil))
  clear hR hk hg
  refine tail_nil (hK3 _ _ ?_)
  refine wp_seq_k fun K5 hK5 => ?_
  refine wp_seq_k fun K6 hK6 => ?_
  refine rg mixed y4 zz4 ?_
  refine .i (sp_move (hbs rfl e3)) ?_
  refine .i (sp_lenSs Try.underlying23 ((hlc rfl).dat D_v3_4 sub_all)) ?_
  refine .i (sp_eql (hlc rfl) Has.cst) ?_
  refine .done ⟨by kernel_rfl, fun a7 g W7 y7 zz7 hk hg hV hR hP => ?_⟩
  obtain ⟨e9, -, -, -⟩ := hV
  replace e0 := (hR 0 rfl).trans e0
  replace e2 := (hR 2 rfl).trans e2
  replace e3 := (hR 3 rfl).trans e3
  replace D_cn := D_cn.ext hk
  replace D_ci := D_ci.ext hk
  replace D_v3_4 := D_v3_4.ext hk
  replace e9 := e9.q
  replace own_bo := own_bo.ext hk
  replace own_bm := own_bm.ext hk
  replace own_b2_2 := own_b2_2.ext hk
  replace kw := kw.x hk
  clear hR hk hg hP
  refine tail_nil (hK6 _ _ ?_)
  refine wp_cond_split e9 (fun hc => ?_) (fun hc => ?_)
  ·
   have hl : (idsP x e).length = 0 := by have h := eq_of_beq hc; unfold idsP; omega
   have h2 : e2P x e = failK x.k (e1P x e) 4 := by rw [e2P, if_pos hl]
   refine wp_reg (fun k => k ∉ [bo]) (Ψ := fun W => Own W bo [(.int .u8 (x.k)), (.int .i64 (x.n)), (.string (x.t)), (.slice cna (x.ns.length) cnc), (.slice cia (x.xs.length) cic), (.map (some bm)), (.int .i64 (tkE x e ⟨#[107, 101, 121, 105, 100, 115]⟩ (textsE 16)))] 74) mixed y7 zz7 stE_own own_bo ?_
   refine .i (sp_move (hbs rfl e0)) ?_
   refine .callL2 (φ1 := Is (.pointer (some ⟨bo, 0, none⟩))) (φ2 := Is (.int .i64 (4))) (φ := Is (.tuple #[])) (Ψ' := fun W => Own W bo [(.int .u8 (x.k)), (.int .i64 (x.n)), (.string (x.t)), (.slice cna (x.ns.length) cnc), (.slice cia (x.xs.length) cic), (.map (some bm)), (.int .i64 (failK x.k (tkE x e ⟨#[107, 101, 121, 105, 100, 115]⟩ (textsE 16)) 4))] 74) ent22 (hlc rfl) Has.cst (st_is _) stE_own (fun g u1 u2 W hk hg h1 h2 hP => by have h1 : u1 = _ := h1; subst u1; have h2 : u2 = _ := h2; subst u2; exact (Fail_ok _ _ _ _ _ _ _ (4) W _ hP)) ?_
   refine .done ⟨by kernel_rfl, fun a8 g W8 y8 zz8 hk hg hV hR hP => ?_⟩
   obtain ⟨-, -, -⟩ := hV
   replace e0 := (hR 0 rfl).trans e0
   replace e2 := (hR 2 rfl).trans e2
   replace e3 := (hR 3 rfl).trans e3
   replace D_cn := sa_keepL D_cn hk (by simp)
   replace D_ci := sa_keepL D_ci hk (by simp)
   replace D_v3_4 := sf_keepL D_v3_4 hk (by simp)
   replace own_bm := ownM_keepL own_bm hk (by simp [hne.symm])
   replace own_b2_2 := own_keepL own_b2_2 hk (by simp [ne_bo_b2_2.symm])
   have own_bo := hP
   replace own_bo : Own W8 bo [(.int .u8 (x.k)), (.int .i64 (x.n)), (.string (x.t)), (.slice cna (x.ns.length) cnc), (.slice cia (x.xs.length) cic), (.map (some bm)), (.int .i64 (failK x.k (tkE x e ⟨#[107, 101, 121, 105, 100, 115]⟩ (textsE 16)) 4))] 74 := own_bo
   replace kw := keeps_L kw hk (in_cons (.inr (by simp)) in_nil)
   clear hR hk hg hP
   refine tail_nil (hK5 _ _ ?_)
   refine wp_seq_k fun K9 hK9 => ?_
   refine wp_reg (fun k => k ∉ [bo]) (Ψ := fun W => Own W bo [(.int .u8 (x.k)), (.int .i64 (x.n)), (.string (x.t)), (.slice cna (x.ns.length) cnc), (.slice cia (x.xs.length) cic), (.map (some bm)), (.int .i64 (failK x.k (tkE x e ⟨#[107, 101, 121, 105, 100, 115]⟩ (textsE 16)) 4))] 74) mixed y8 zz8 stE_own own_bo ?_
   refine .i (sp_move (hbs rfl e0)) ?_
   refine .i (sp_move (hbs rfl e3)) ?_
   refine .i (v := (.int .i64 (wrongE [] (if tkB x e ⟨#[107, 101, 121, 105, 100, 115]⟩ (textsE 16) then textsL 16 (getV x ⟨#[107, 101, 121, 105, 100, 115]⟩) else [])))) (sp_call1 (φ1 := IsD (SF w [b2_2, bo, bm]) (strsD (if tkB x e ⟨#[107, 101, 121, 105, 100, 115]⟩ (textsE 16) then textsL 16 (getV x ⟨#[107, 101, 121, 105, 100, 115]⟩) else []))) ent77 ((hlc rfl).dat D_v3_4 (sub_nlF (by simp))) (fun g u1 W hk hgk h1 => wrong_ok (if tkB x e ⟨#[107, 101, 121, 105, 100, 115]⟩ (textsE 16) then textsL 16 (getV x ⟨#[107, 101, 121, 105, 100, 115]⟩) else []) W _ _ h1)) ?_
   refine .callL2 (φ1 := Is (.pointer (some ⟨bo, 0, none⟩))) (φ2 := Is (.int .i64 (wrongE [] (if tkB x e ⟨#[107, 101, 121, 105, 100, 115]⟩ (textsE 16) then textsL 16 (getV x ⟨#[107, 101, 121, 105, 100, 115]⟩) else [])))) (φ := Is (.tuple #[])) (Ψ' := fun W => Own W bo [(.int .u8 (x.k)), (.int .i64 (x.n)), (.string (x.t)), (.slice cna (x.ns.length) cnc), (.slice cia (x.xs.length) cic), (.map (some bm)), (.int .i64 (failK x.k (failK x.k (tkE x e ⟨#[107, 101, 121, 105, 100, 115]⟩ (textsE 16)) 4) (wrongE [] (if tkB x e ⟨#[107, 101, 121, 105, 100, 115]⟩ (textsE 16) then textsL 16 (getV x ⟨#[107, 101, 121, 105, 100, 115]⟩) else []))))] 74) ent22 (hlc rfl) (hlc rfl) (st_is _) stE_own (fun g u1 u2 W hk hg h1 h2 hP => by have h1 : u1 = _ := h1; subst u1; have h2 : u2 = _ := h2; subst u2; exact (Fail_ok _ _ _ _ _ _ _ (wrongE [] (if tkB x e ⟨#[107, 101, 121, 105, 100, 115]⟩ (textsE 16) then textsL 16 (getV x ⟨#[107, 101, 121, 105, 100, 115]⟩) else [])) W _ hP)) ?_
   refine .done ⟨by kernel_rfl, fun a10 g W10 y10 zz10 hk hg hV hR hP => ?_⟩
   obtain ⟨-, -, -, -, -⟩ := hV
   replace e0 := (hR 0 rfl).trans e0
   replace e2 := (hR 2 rfl).trans e2
   replace e3 := (hR 3 rfl).trans e3
   replace D_cn := sa_keepL D_cn hk (by simp)
   replace D_ci := sa_keepL D_ci hk (by simp)
   replace D_v3_4 := sf_keepL D_v3_4 hk (by simp)
   replace own_bm := ownM_keepL own_bm hk (by simp [hne.symm])
   replace own_b2_2 := own_keepL own_b2_2 hk (by simp [ne_bo_b2_2.symm])
   have own_bo := hP
   replace own_bo : Own W10 bo [(.int .u8 (x.k)), (.int .i64 (x.n)), (.string (x.t)), (.slice cna (x.ns.length) cnc), (.slice cia (x.xs.length) cic), (.map (some bm)), (.int .i64 (failK x.k (failK x.k (tkE x e ⟨#[107, 101, 121, 105, 100, 115]⟩ (textsE 16)) 4) (wrongE [] (if tkB x e ⟨#[107, 101, 121, 105, 100, 115]⟩ (textsE 16) then textsL 16 (getV x ⟨#[107, 101, 121, 105, 100, 115]⟩) else []))))] 74 := own_bo
   replace kw := keeps_L kw hk (in_cons (.inr (by simp)) in_nil)
   clear hR hk hg hP
   refine tail_nil (hK9 _ _ ?_)
   refine wp_seq_k fun K11 hK11 => ?_
   refine wp_reg (fun k => k ∉ [bo, bm]) (Ψ := fun W => Own W bo [(.int .u8 (x.k)), (.int .i64 (x.n)), (.string (x.t)), (.slice cna (x.ns.length) cnc), (.slice cia (x.xs.length) cic), (.map (some bm)), (.int .i64 (failK x.k (failK x.k (tkE x e ⟨#[107, 101, 121, 105, 100, 115]⟩ (textsE 16)) 4) (wrongE [] (if tkB x e ⟨#[107, 101, 121, 105, 100, 115]⟩ (textsE 16) then textsL 16 (getV x ⟨#[107, 101, 121, 105, 100, 115]⟩) else []))))] 74 ∧ OwnM W bm (tkA x A e ⟨#[107, 101, 121, 105, 100, 115]⟩ (textsE 16))) mixed y10 zz10 (stE_and stE_own stE_ownM) ⟨own_bo, own_bm⟩ ?_
   refine .i (sp_move (hbs rfl e0)) ?_
   refine .i (sp_move (hbs rfl e3)) ?_
   refine .i (sp_lenSs Try.underlying23 ((hlc rfl).dat D_v3_4 (sub_nlF (by simp)))) ?_
   refine .callL4 (φ1 := Is (.pointer (some ⟨bo, 0, none⟩))) (φ2 := Is (.string (⟨#[116, 104, 114, 101, 115, 104, 111, 108, 100]⟩))) (φ3 := Is (.int .i64 (1))) (φ4 := Is (.int .i64 ((if tkB x e ⟨#[107, 101, 121, 105, 100, 115]⟩ (textsE 16) then textsL 16 (getV x ⟨#[107, 101, 121, 105, 100, 115]⟩) else []).length))) (φ := Is (.int .i64 (if tkB x (failK x.k (failK x.k (tkE x e ⟨#[107, 101, 121, 105, 100, 115]⟩ (textsE 16)) 4) (wrongE [] (if tkB x e ⟨#[107, 101, 121, 105, 100, 115]⟩ (textsE 16) then textsL 16 (getV x ⟨#[107, 101, 121, 105, 100, 115]⟩) else []))) ⟨#[116, 104, 114, 101, 115, 104, 111, 108, 100]⟩ (numE 1 ((if tkB x e ⟨#[107, 101, 121, 105, 100, 115]⟩ (textsE 16) then textsL 16 (getV x ⟨#[107, 101, 121, 105, 100, 115]⟩) else []).length)) then numV 1 ((if tkB x e ⟨#[107, 101, 121, 105, 100, 115]⟩ (textsE 16) then textsL 16 (getV x ⟨#[107, 101, 121, 105, 100, 115]⟩) else []).length) (getV x ⟨#[116, 104, 114, 101, 115, 104, 111, 108, 100]⟩) else 0))) (Ψ' := fun W => Own W bo [(.int .u8 (x.k)), (.int .i64 (x.n)), (.string (x.t)), (.slice cna (x.ns.length) cnc), (.slice cia (x.xs.length) cic), (.map (some bm)), (.int .i64 (tkE x (failK x.k (failK x.k (tkE x e ⟨#[107, 101, 121, 105, 100, 115]⟩ (textsE 16)) 4) (wrongE [] (if tkB x e ⟨#[107, 101, 121, 105, 100, 115]⟩ (textsE 16) then textsL 16 (getV x ⟨#[107, 101, 121, 105, 100, 115]⟩) else []))) ⟨#[116, 104, 114, 101, 115, 104, 111, 108, 100]⟩ (numE 1 ((if tkB x e ⟨#[107, 101, 121, 105, 100, 115]⟩ (textsE 16) then textsL 16 (getV x ⟨#[107, 101, 121, 105, 100, 115]⟩) else []).length))))] 74 ∧ OwnM W bm (tkA x (tkA x A e ⟨#[107, 101, 121, 105, 100, 115]⟩ (textsE 16)) (failK x.k (failK x.k (tkE x e ⟨#[107, 101, 121, 105, 100, 115]⟩ (textsE 16)) 4) (wrongE [] (if tkB x e ⟨#[107, 101, 121, 105, 100, 115]⟩ (textsE 16) then textsL 16 (getV x ⟨#[107, 101, 121, 105, 100, 115]⟩) else []))) ⟨#[116, 104, 114, 101, 115, 104, 111, 108, 100]⟩ (numE 1 ((if tkB x e ⟨#[107, 101, 121, 105, 100, 115]⟩ (textsE 16) then textsL 16 (getV x ⟨#[107, 101, 121, 105, 100, 115]⟩) else []).length)))) ent44 (hlc rfl) Has.cst Has.cst (hlc rfl) (st_is _) (stE_and stE_own stE_ownM) (fun g u1 u2 u3 u4 W hk hg h1 h2 h3 h4 hP => by have h1 : u1 = _ := h1; subst u1; have h2 : u2 = _ := h2; subst u2; have h3 : u3 = _ := h3; subst u3; have h4 : u4 = _ := h4; subst u4; exact (Num_ok (x) (tkA x A e ⟨#[107, 101, 121, 105, 100, 115]⟩ (textsE 16)) (failK x.k (failK x.k (tkE x e ⟨#[107, 101, 121, 105, 100, 115]⟩ (textsE 16)) 4) (wrongE [] (if tkB x e ⟨#[107, 101, 121, 105, 100, 115]⟩ (textsE 16) then textsL 16 (getV x ⟨#[107, 101, 121, 105, 100, 115]⟩) else []))) (hA.tk.mono (by omega)) hx hxt ⟨#[116, 104, 114, 101, 115, 104, 111, 108, 100]⟩ 1 ((if tkB x e ⟨#[107, 101, 121, 105, 100, 115]⟩ (textsE 16) then textsL 16 (getV x ⟨#[107, 101, 121, 105, 100, 115]⟩) else []).length) W _ _ _ _ _ (sa_cln hS) (sa_notin (by simp)) hne (sa_keepL D_cn hk (by simp)) (sa_keepL D_ci hk (by simp)) hP.1 hP.2)) ?_
   refine .i (sp_assign (hlc rfl)) ?_
   refine .done ⟨by kernel_rfl, fun a12 g W12 y12 zz12 hk hg hV hR hP => ?_⟩
   obtain ⟨e4, -, -, -, -, -⟩ := hV
   replace e0 := (hR 0 rfl).trans e0
   replace e2 := (hR 2 rfl).trans e2
   replace e3 := (hR 3 rfl).trans e3
   replace e4 := e4.q
   replace D_cn := sa_keepL D_cn hk (by simp)
   replace D_ci := sa_keepL D_ci hk (by simp)
   replace D_v3_4 := sf_keepL D_v3_4 hk (by simp)
   replace own_b2_2 := own_keepL own_b2_2 hk (by simp [ne_bo_b2_2.symm, ne_bm_b2_2.symm])
   obtain ⟨own_bo, own_bm⟩ := hP
   replace own_bo : Own W12 bo [(.int .u8 (x.k)), (.int .i64 (x.n)), (.string (x.t)), (.slice cna (x.ns.length) cnc), (.slice cia (x.xs.length) cic), (.map (some bm)), (.int .i64 (tkE x (failK x.k (failK x.k (tkE x e ⟨#[107, 101, 121, 105, 100, 115]⟩ (textsE 16)) 4) (wrongE [] (if tkB x e ⟨#[107, 101, 121, 105, 100, 115]⟩ (textsE 16) then textsL 16 (getV x ⟨#[107, 101, 121, 105, 100, 115]⟩) else []))) ⟨#[116, 104, 114, 101, 115, 104, 111, 108, 100]⟩ (numE 1 ((if tkB x e ⟨#[107, 101, 121, 105, 100, 115]⟩ (textsE 16) then textsL 16 (getV x ⟨#[107, 101, 121, 105, 100, 115]⟩) else []).length))))] 74 := own_bo
   replace own_bm : OwnM W12 bm (tkA x (tkA x A e ⟨#[107, 101, 121, 105, 100, 115]⟩ (textsE 16)) (failK x.k (failK x.k (tkE x e ⟨#[107, 101, 121, 105, 100, 115]⟩ (textsE 16)) 4) (wrongE [] (if tkB x e ⟨#[107, 101, 121, 105, 100, 115]⟩ (textsE 16) then textsL 16 (getV x ⟨#[107, 101, 121, 105, 100, 115]⟩) else []))) ⟨#[116, 104, 114, 101, 115, 104, 111, 108, 100]⟩ (numE 1 ((if tkB x e ⟨#[107, 101, 121, 105, 100, 115]⟩ (textsE 16) then textsL 16 (getV x ⟨#[107, 101, 121, 105, 100, 115]⟩) else []).length))) := own_bm
   replace kw := keeps_L kw hk (in_cons (.inr (by simp)) (in_cons (.inr (by simp)) in_nil))
   clear hR hk hg
   refine tail_nil (hK11 _ _ ?_)
   refine wp_seq_k fun K13 hK13 => ?_
   refine wp_seq_k fun K14 hK14 => ?_
   refine rg mixed y12 zz12 ?_
   refine .i (sp_move (hbs rfl e0)) ?_
   refine .i (v := (.int .i64 (errK x.k (tkE x (failK x.k (failK x.k (tkE x e ⟨#[107, 101, 121, 105, 100, 115]⟩ (textsE 16)) 4) (wrongE [] (if tkB x e ⟨#[107, 101, 121, 105, 100, 115]⟩ (textsE 16) then textsL 16 (getV x ⟨#[107, 101, 121, 105, 100, 115]⟩) else []))) ⟨#[116, 104, 114, 101, 115, 104, 111, 108, 100]⟩ (numE 1 ((if tkB x e ⟨#[107, 101, 121, 105, 100, 115]⟩ (textsE 16) then textsL 16 (getV x ⟨#[107, 101, 121, 105, 100, 115]⟩) else []).length)))))) (sp_call1 (φ1 := Is (.pointer (some ⟨bo, 0, none⟩))) ent24 (hlc rfl) (fun g u1 W hk hgk h1 => by have h1 : u1 = _ := h1; subst u1; exact Err_ok _ _ _ _ _ _ _ W _ (own_bo.ext hk))) ?_
   refine .i (sp_neq (hlc rfl) Has.cst) ?_
   refine .done ⟨by kernel_rfl, fun a15 g W15 y15 zz15 hk hg hV hR hP => ?_⟩
   obtain ⟨e22, -, -, -⟩ := hV
   replace e2 := (hR 2 rfl).trans e2
   replace e3 := (hR 3 rfl).trans e3
   replace e4 := (hR 4 rfl).trans e4
   replace D_cn := D_cn.ext hk
   replace D_ci := D_ci.ext hk
   replace D_v3_4 := D_v3_4.ext hk
   replace e22 := e22.q
   replace own_bo := own_bo.ext hk
   replace own_bm := own_bm.ext hk
   replace own_b2_2 := own_b2_2.ext hk
   replace kw := kw.x hk
   clear hR hk hg hP
   refine tail_nil (hK14 _ _ ?_)
   refine wp_cond_split e22 (fun hc => ?_) (fun hc => ?_)
   ·
    have hE := bne_iff_ne.1 hc
    refine wp_seq_k fun K16 hK16 => ?_
    refine rg mixed y15 zz15 ?_
    refine .i (v := (.agg #[(.int .i64 (0)), (.slice none 0 0)])) (sp_build (vs := []) Try.underlying27 z27 (pl27 Try.underlying27) trivial rfl) ?_
    refine .done ⟨by kernel_rfl, fun a17 g W17 y17 zz17 hk hg hV hR hP => ?_⟩
    obtain ⟨e23, -⟩ := hV
    replace e2 := (hR 2 rfl).trans e2
    replace D_cn := D_cn.ext hk
    replace D_ci := D_ci.ext hk
    replace D_v3_4 := D_v3_4.ext hk
    replace e23 := e23.q
    replace own_bo := own_bo.ext hk
    replace own_bm := own_bm.ext hk
    replace own_b2_2 := own_b2_2.ext hk
    replace kw := kw.x hk
    clear hR hk hg hP
    refine tail_store (b := b2_2) (o := 0) (v := (.agg #[(.int .i64 (0)), (.slice none 0 0)])) e2 e23 sz27 rfl own_b2_2 (lbr rfl) (all_cons rfl (all_cons rfl all_nil)) (fun W18 hs own_b2_2 => ?_)
    have own_b2_2 : Own W18 b2_2 [(.int .i64 (0)), (.slice none 0 0)] 27 := own_b2_2
    replace own_bo := own_store own_bo hs ne_bo_b2_2
    replace own_bm := ownM_store own_bm hs ne_bm_b2_2
    replace D_cn := sa_store D_cn hs (by simp)
    replace D_ci := sa_store D_ci hs (by simp)
    replace D_v3_4 := sf_store D_v3_4 hs (by simp)
    replace kw := keeps_store kw hs lo_b2_2
    clear hs
    refine tail_nil (hK16 _ _ ?_)
    refine wp_ret ?_
    refine (show bodyPost Try.prog Try.f23 _ .ret _ _ from retC (v := (.agg #[(.int .i64 (0)), (.slice none 0 0)])) rfl zz17 e2 own_b2_2 agg27 sz27 rfl (fun h => by cases h) rfl ⟨_, rfl, kw, ?_⟩)
    have hpa : partA x e = ⟨0, []⟩ := by rw [partA, if_pos (by rw [partE, e3P, h2]; exact hE)]
    refine ⟨?_, by rw [partE, e3P, h2]; exact own_bo, by rw [partM, e3P, h2]; exact own_bm⟩
    rw [hpa]
    exact sf_fr (rdAu_mk (rd_nil _) : Rd W18 (SF w [b2_2, bo, bm]) (Au.d (Au.mk (0) ([]))) _)
   ·
    have hE := bne_eq_false_iff_eq.1 hc
    refine wp_skip (hK13 _ _ ?_)
    refine wp_seq_k fun K19 hK19 => ?_
    refine rg mixed y15 zz15 ?_
    refine .i (sp_move (hbs rfl e4)) ?_
    refine .i (sp_move (hbs rfl e3)) ?_
    refine .i (v := (.agg #[(.int .i64 (if tkB x (failK x.k (failK x.k (tkE x e ⟨#[107, 101, 121, 105, 100, 115]⟩ (textsE 16)) 4) (wrongE [] (if tkB x e ⟨#[107, 101, 121, 105, 100, 115]⟩ (textsE 16) then textsL 16 (getV x ⟨#[107, 101, 121, 105, 100, 115]⟩) else []))) ⟨#[116, 104, 114, 101, 115, 104, 111, 108, 100]⟩ (numE 1 ((if tkB x e ⟨#[107, 101, 121, 105, 100, 115]⟩ (textsE 16) then textsL 16 (getV x ⟨#[107, 101, 121, 105, 100, 115]⟩) else []).length)) then numV 1 ((if tkB x e ⟨#[107, 101, 121, 105, 100, 115]⟩ (textsE 16) then textsL 16 (getV x ⟨#[107, 101, 121, 105, 100, 115]⟩) else []).length) (getV x ⟨#[116, 104, 114, 101, 115, 104, 111, 108, 100]⟩) else 0)), (.slice v3_4a ((if tkB x e ⟨#[107, 101, 121, 105, 100, 115]⟩ (textsE 16) then textsL 16 (getV x ⟨#[107, 101, 121, 105, 100, 115]⟩) else []).length) v3_4c)])) (sp_build (vs := [(0, (.int .i64 (if tkB x (failK x.k (failK x.k (tkE x e ⟨#[107, 101, 121, 105, 100, 115]⟩ (textsE 16)) 4) (wrongE [] (if tkB x e ⟨#[107, 101, 121, 105, 100, 115]⟩ (textsE 16) then textsL 16 (getV x ⟨#[107, 101, 121, 105, 100, 115]⟩) else []))) ⟨#[116, 104, 114, 101, 115, 104, 111, 108, 100]⟩ (numE 1 ((if tkB x e ⟨#[107, 101, 121, 105, 100, 115]⟩ (textsE 16) then textsL 16 (getV x ⟨#[107, 101, 121, 105, 100, 115]⟩) else []).length)) then numV 1 ((if tkB x e ⟨#[107, 101, 121, 105, 100, 115]⟩ (textsE 16) then textsL 16 (getV x ⟨#[107, 101, 121, 105, 100, 115]⟩) else []).length) (getV x ⟨#[116, 104, 114, 101, 115, 104, 111, 108, 100]⟩) else 0))), (1, (.slice v3_4a ((if tkB x e ⟨#[107, 101, 121, 105, 100, 115]⟩ (textsE 16) then textsL 16 (getV x ⟨#[107, 101, 121, 105, 100, 115]⟩) else []).length) v3_4c))]) Try.underlying27 z27 (pl27 Try.underlying27) ⟨rfl, (hlc rfl), rfl, (hlc rfl), trivial⟩ rfl) ?_
    refine .done ⟨by kernel_rfl, fun a20 g W20 y20 zz20 hk hg hV hR hP => ?_⟩
    obtain ⟨e26, -, -, -⟩ := hV
    replace e2 := (hR 2 rfl).trans e2
    replace D_cn := D_cn.ext hk
    replace D_ci := D_ci.ext hk
    replace D_v3_4 := D_v3_4.ext hk
    replace e26 := e26.q
    replace own_bo := own_bo.ext hk
    replace own_bm := own_bm.ext hk
    replace own_b2_2 := own_b2_2.ext hk
    replace kw := kw.x hk
    clear hR hk hg hP
    refine tail_store (b := b2_2) (o := 0) (v := (.agg #[(.int .i64 (if tkB x (failK x.k (failK x.k (tkE x e ⟨#[107, 101, 121, 105, 100, 115]⟩ (textsE 16)) 4) (wrongE [] (if tkB x e ⟨#[107, 101, 121, 105, 100, 115]⟩ (textsE 16) then textsL 16 (getV x ⟨#[107, 101, 121, 105, 100, 115]⟩) else []))) ⟨#[116, 104, 114, 101, 115, 104, 111, 108, 100]⟩ (numE 1 ((if tkB x e ⟨#[107, 101, 121, 105, 100, 115]⟩ (textsE 16) then textsL 16 (getV x ⟨#[107, 101, 121, 105, 100, 115]⟩) else []).length)) then numV 1 ((if tkB x e ⟨#[107, 101, 121, 105, 100, 115]⟩ (textsE 16) then textsL 16 (getV x ⟨#[107, 101, 121, 105, 100, 115]⟩) else []).length) (getV x ⟨#[116, 104, 114, 101, 115, 104, 111, 108, 100]⟩) else 0)), (.slice v3_4a ((if tkB x e ⟨#[107, 101, 121, 105, 100, 115]⟩ (textsE 16) then textsL 16 (getV x ⟨#[107, 101, 121, 105, 100, 115]⟩) else []).length) v3_4c)])) e2 e26 sz27 rfl own_b2_2 (lbr rfl) (all_cons rfl (all_cons rfl all_nil)) (fun W21 hs own_b2_2 => ?_)
    have own_b2_2 : Own W21 b2_2 [(.int .i64 (if tkB x (failK x.k (failK x.k (tkE x e ⟨#[107, 101, 121, 105, 100, 115]⟩ (textsE 16)) 4) (wrongE [] (if tkB x e ⟨#[107, 101, 121, 105, 100, 115]⟩ (textsE 16) then textsL 16 (getV x ⟨#[107, 101, 121, 105, 100, 115]⟩) else []))) ⟨#[116, 104, 114, 101, 115, 104, 111, 108, 100]⟩ (numE 1 ((if tkB x e ⟨#[107, 101, 121, 105, 100, 115]⟩ (textsE 16) then textsL 16 (getV x ⟨#[107, 101, 121, 105, 100, 115]⟩) else []).length)) then numV 1 ((if tkB x e ⟨#[107, 101, 121, 105, 100, 115]⟩ (textsE 16) then textsL 16 (getV x ⟨#[107, 101, 121, 105, 100, 115]⟩) else []).length) (getV x ⟨#[116, 104, 114, 101, 115, 104, 111, 108, 100]⟩) else 0)), (.slice v3_4a ((if tkB x e ⟨#[107, 101, 121, 105, 100, 115]⟩ (textsE 16) then textsL 16 (getV x ⟨#[107, 101, 121, 105, 100, 115]⟩) else []).length) v3_4c)] 27 := own_b2_2
    replace own_bo := own_store own_bo hs ne_bo_b2_2
    replace own_bm := ownM_store own_bm hs ne_bm_b2_2
    replace D_cn := sa_store D_cn hs (by simp)
    replace D_ci := sa_store D_ci hs (by simp)
    replace D_v3_4 := sf_store D_v3_4 hs (by simp)
    replace kw := keeps_store kw hs lo_b2_2
    clear hs
    refine tail_nil (hK19 _ _ ?_)
    refine wp_ret ?_
    refine (show bodyPost Try.prog Try.f23 _ .ret _ _ from retC (v := (.agg #[(.int .i64 (if tkB x (failK x.k (failK x.k (tkE x e ⟨#[107, 101, 121, 105, 100, 115]⟩ (textsE 16)) 4) (wrongE [] (if tkB x e ⟨#[107, 101, 121, 105, 100, 115]⟩ (textsE 16) then textsL 16 (getV x ⟨#[107, 101, 121, 105, 100, 115]⟩) else []))) ⟨#[116, 104, 114, 101, 115, 104, 111, 108, 100]⟩ (numE 1 ((if tkB x e ⟨#[107, 101, 121, 105, 100, 115]⟩ (textsE 16) then textsL 16 (getV x ⟨#[107, 101, 121, 105, 100, 115]⟩) else []).length)) then numV 1 ((if tkB x e ⟨#[107, 101, 121, 105, 100, 115]⟩ (textsE 16) then textsL 16 (getV x ⟨#[107, 101, 121, 105, 100, 115]⟩) else []).length) (getV x ⟨#[116, 104, 114, 101, 115, 104, 111, 108, 100]⟩) else 0)), (.slice v3_4a ((if tkB x e ⟨#[107, 101, 121, 105, 100, 115]⟩ (textsE 16) then textsL 16 (getV x ⟨#[107, 101, 121, 105, 100, 115]⟩) else []).length) v3_4c)])) rfl zz20 e2 own_b2_2 agg27 sz27 rfl (fun h => by cases h) rfl ⟨_, rfl, kw, ?_⟩)
    have hpa : partA x e = ⟨thP x e, idsP x e⟩ := by rw [partA, if_neg (by rw [partE, e3P, h2]; exact fun h => h hE)]
    refine ⟨?_, by rw [partE, e3P, h2]; exact own_bo, by rw [partM, e3P, h2]; exact own_bm⟩
    rw [hpa]
    rw [thP, e3P, h2]
    exact sf_fr (rdAu_mk D_v3_4 : Rd W21 (SF w [b2_2, bo, bm]) (Au.d (Au.mk (if tkB x (failK x.k (failK x.k (tkE x e ⟨#[107, 101, 121, 105, 100, 115]⟩ (textsE 16)) 4) (wrongE [] (if tkB x e ⟨#[107, 101, 121, 105, 100, 115]⟩ (textsE 16) then textsL 16 (getV x ⟨#[107, 101, 121, 105, 100, 115]⟩) else []))) ⟨#[116, 104, 114, 101, 115, 104, 111, 108, 100]⟩ (numE 1 ((if tkB x e ⟨#[107, 101, 121, 105, 100, 115]⟩ (textsE 16) then textsL 16 (getV x ⟨#[107, 101, 121, 105, 100, 115]⟩) else []).length)) then numV 1 ((if tkB x e ⟨#[107, 101, 121, 105, 100, 115]⟩ (textsE 16) then textsL 16 (getV x ⟨#[107, 101, 121, 105, 100, 115]⟩) else []).length) (getV x ⟨#[116, 104, 114, 101, 115, 104, 111, 108, 100]⟩) else 0) (if tkB x e ⟨#[107, 101, 121, 105, 100, 115]⟩ (textsE 16) then textsL 16 (getV x ⟨#[107, 101, 121, 105, 100, 115]⟩) else []))) _)
  ·
   have hl : ¬ (idsP x e).length = 0 := by have h := ne_of_beq_false hc; unfold idsP; omega
   have h2 : e2P x e = e1P x e := by rw [e2P, if_neg hl]
   refine wp_skip (hK5 _ _ ?_)
   refine wp_seq_k fun K22 hK22 => ?_
   refine wp_reg (fun k => k ∉ [bo]) (Ψ := fun W => Own W bo [(.int .u8 (x.k)), (.int .i64 (x.n)), (.string (x.t)), (.slice cna (x.ns.length) cnc), (.slice cia (x.xs.length) cic), (.map (some bm)), (.int .i64 (tkE x e ⟨#[107, 101, 121, 105, 100, 115]⟩ (textsE 16)))] 74) mixed y7 zz7 stE_own own_bo ?_
   refine .i (sp_move (hbs rfl e0)) ?_
   refine .i (sp_move (hbs rfl e3)) ?_
   refine .i (v := (.int .i64 (wrongE [] (if tkB x e ⟨#[107, 101, 121, 105, 100, 115]⟩ (textsE 16) then textsL 16 (getV x ⟨#[107, 101, 121, 105, 100, 115]⟩) else [])))) (sp_call1 (φ1 := IsD (SF w [b2_2, bo, bm]) (strsD (if tkB x e ⟨#[107, 101, 121, 105, 100, 115]⟩ (textsE 16) then textsL 16 (getV x ⟨#[107, 101, 121, 105, 100, 115]⟩) else []))) ent77 ((hlc rfl).dat D_v3_4 (sub_nlF (by simp))) (fun g u1 W hk hgk h1 => wrong_ok (if tkB x e ⟨#[107, 101, 121, 105, 100, 115]⟩ (textsE 16) then textsL 16 (getV x ⟨#[107, 101, 121, 105, 100, 115]⟩) else []) W _ _ h1)) ?_
   refine .callL2 (φ1 := Is (.pointer (some ⟨bo, 0, none⟩))) (φ2 := Is (.int .i64 (wrongE [] (if tkB x e ⟨#[107, 101, 121, 105, 100, 115]⟩ (textsE 16) then textsL 16 (getV x ⟨#[107, 101, 121, 105, 100, 115]⟩) else [])))) (φ := Is (.tuple #[])) (Ψ' := fun W => Own W bo [(.int .u8 (x.k)), (.int .i64 (x.n)), (.string (x.t)), (.slice cna (x.ns.length) cnc), (.slice cia (x.xs.length) cic), (.map (some bm)), (.int .i64 (failK x.k (tkE x e ⟨#[107, 101, 121, 105, 100, 115]⟩ (textsE 16)) (wrongE [] (if tkB x e ⟨#[107, 101, 121, 105, 100, 115]⟩ (textsE 16) then textsL 16 (getV x ⟨#[107, 101, 121, 105, 100, 115]⟩) else []))))] 74) ent22 (hlc rfl) (hlc rfl) (st_is _) stE_own (fun g u1 u2 W hk hg h1 h2 hP => by have h1 : u1 = _ := h1; subst u1; have h2 : u2 = _ := h2; subst u2; exact (Fail_ok _ _ _ _ _ _ _ (wrongE [] (if tkB x e ⟨#[107, 101, 121, 105, 100, 115]⟩ (textsE 16) then textsL 16 (getV x ⟨#[107, 101, 121, 105, 100, 115]⟩) else [])) W _ hP)) ?_
   refine .done ⟨by kernel_rfl, fun a23 g W23 y23 zz23 hk hg hV hR hP => ?_⟩
   obtain ⟨-, -, -, -, -⟩ := hV
   replace e0 := (hR 0 rfl).trans e0
   replace e2 := (hR 2 rfl).trans e2
   replace e3 := (hR 3 rfl).trans e3
   replace D_cn := sa_keepL D_cn hk (by simp)
   replace D_ci := sa_keepL D_ci hk (by simp)
   replace D_v3_4 := sf_keepL D_v3_4 hk (by simp)
   replace own_bm := ownM_keepL own_bm hk (by simp [hne.symm])
   replace own_b2_2 := own_keepL own_b2_2 hk (by simp [ne_bo_b2_2.symm])
   have own_bo := hP
   replace own_bo : Own W23 bo [(.int .u8 (x.k)), (.int .i64 (x.n)), (.string (x.t)), (.slice cna (x.ns.length) cnc), (.slice cia (x.xs.length) cic), (.map (some bm)), (.int .i64 (failK x.k (tkE x e ⟨#[107, 101, 121, 105, 100, 115]⟩ (textsE 16)) (wrongE [] (if tkB x e ⟨#[107, 101, 121, 105, 100, 115]⟩ (textsE 16) then textsL 16 (getV x ⟨#[107, 101, 121, 105, 100, 115]⟩) else []))))] 74 := own_bo
   replace kw := keeps_L kw hk (in_cons (.inr (by simp)) in_nil)
   clear hR hk hg hP
   refine tail_nil (hK22 _ _ ?_)
   refine wp_seq_k fun K24 hK24 => ?_
   refine wp_reg (fun k => k ∉ [bo, bm]) (Ψ := fun W => Own W bo [(.int .u8 (x.k)), (.int .i64 (x.n)), (.string (x.t)), (.slice cna (x.ns.length) cnc), (.slice cia (x.xs.length) cic), (.map (some bm)), (.int .i64 (failK x.k (tkE x e ⟨#[107, 101, 121, 105, 100, 115]⟩ (textsE 16)) (wrongE [] (if tkB x e ⟨#[107, 101, 121, 105, 100, 115]⟩ (textsE 16) then textsL 16 (getV x ⟨#[107, 101, 121, 105, 100, 115]⟩) else []))))] 74 ∧ OwnM W bm (tkA x A e ⟨#[107, 101, 121, 105, 100, 115]⟩ (textsE 16))) mixed y23 zz23 (stE_and stE_own stE_ownM) ⟨own_bo, own_bm⟩ ?_
   refine .i (sp_move (hbs rfl e0)) ?_
   refine .i (sp_move (hbs rfl e3)) ?_
   refine .i (sp_lenSs Try.underlying23 ((hlc rfl).dat D_v3_4 (sub_nlF (by simp)))) ?_
   refine .callL4 (φ1 := Is (.pointer (some ⟨bo, 0, none⟩))) (φ2 := Is (.string (⟨#[116, 104, 114, 101, 115, 104, 111, 108, 100]⟩))) (φ3 := Is (.int .i64 (1))) (φ4 := Is (.int .i64 ((if tkB x e ⟨#[107, 101, 121, 105, 100, 115]⟩ (textsE 16) then textsL 16 (getV x ⟨#[107, 101, 121, 105, 100, 115]⟩) else []).length))) (φ := Is (.int .i64 (if tkB x (failK x.k (tkE x e ⟨#[107, 101, 121, 105, 100, 115]⟩ (textsE 16)) (wrongE [] (if tkB x e ⟨#[107, 101, 121, 105, 100, 115]⟩ (textsE 16) then textsL 16 (getV x ⟨#[107, 101, 121, 105, 100, 115]⟩) else []))) ⟨#[116, 104, 114, 101, 115, 104, 111, 108, 100]⟩ (numE 1 ((if tkB x e ⟨#[107, 101, 121, 105, 100, 115]⟩ (textsE 16) then textsL 16 (getV x ⟨#[107, 101, 121, 105, 100, 115]⟩) else []).length)) then numV 1 ((if tkB x e ⟨#[107, 101, 121, 105, 100, 115]⟩ (textsE 16) then textsL 16 (getV x ⟨#[107, 101, 121, 105, 100, 115]⟩) else []).length) (getV x ⟨#[116, 104, 114, 101, 115, 104, 111, 108, 100]⟩) else 0))) (Ψ' := fun W => Own W bo [(.int .u8 (x.k)), (.int .i64 (x.n)), (.string (x.t)), (.slice cna (x.ns.length) cnc), (.slice cia (x.xs.length) cic), (.map (some bm)), (.int .i64 (tkE x (failK x.k (tkE x e ⟨#[107, 101, 121, 105, 100, 115]⟩ (textsE 16)) (wrongE [] (if tkB x e ⟨#[107, 101, 121, 105, 100, 115]⟩ (textsE 16) then textsL 16 (getV x ⟨#[107, 101, 121, 105, 100, 115]⟩) else []))) ⟨#[116, 104, 114, 101, 115, 104, 111, 108, 100]⟩ (numE 1 ((if tkB x e ⟨#[107, 101, 121, 105, 100, 115]⟩ (textsE 16) then textsL 16 (getV x ⟨#[107, 101, 121, 105, 100, 115]⟩) else []).length))))] 74 ∧ OwnM W bm (tkA x (tkA x A e ⟨#[107, 101, 121, 105, 100, 115]⟩ (textsE 16)) (failK x.k (tkE x e ⟨#[107, 101, 121, 105, 100, 115]⟩ (textsE 16)) (wrongE [] (if tkB x e ⟨#[107, 101, 121, 105, 100, 115]⟩ (textsE 16) then textsL 16 (getV x ⟨#[107, 101, 121, 105, 100, 115]⟩) else []))) ⟨#[116, 104, 114, 101, 115, 104, 111, 108, 100]⟩ (numE 1 ((if tkB x e ⟨#[107, 101, 121, 105, 100, 115]⟩ (textsE 16) then textsL 16 (getV x ⟨#[107, 101, 121, 105, 100, 115]⟩) else []).length)))) ent44 (hlc rfl) Has.cst Has.cst (hlc rfl) (st_is _) (stE_and stE_own stE_ownM) (fun g u1 u2 u3 u4 W hk hg h1 h2 h3 h4 hP => by have h1 : u1 = _ := h1; subst u1; have h2 : u2 = _ := h2; subst u2; have h3 : u3 = _ := h3; subst u3; have h4 : u4 = _ := h4; subst u4; exact (Num_ok (x) (tkA x A e ⟨#[107, 101, 121, 105, 100, 115]⟩ (textsE 16)) (failK x.k (tkE x e ⟨#[107, 101, 121, 105, 100, 115]⟩ (textsE 16)) (wrongE [] (if tkB x e ⟨#[107, 101, 121, 105, 100, 115]⟩ (textsE 16) then textsL 16 (getV x ⟨#[107, 101, 121, 105, 100, 115]⟩) else []))) (hA.tk.mono (by omega)) hx hxt ⟨#[116, 104, 114, 101, 115, 104, 111, 108, 100]⟩ 1 ((if tkB x e ⟨#[107, 101, 121, 105, 100, 115]⟩ (textsE 16) then textsL 16 (getV x ⟨#[107, 101, 121, 105, 100, 115]⟩) else []).length) W _ _ _ _ _ (sa_cln hS) (sa_notin (by simp)) hne (sa_keepL D_cn hk (by simp)) (sa_keepL D_ci hk (by simp)) hP.1 hP.2)) ?_
   refine .i (sp_assign (hlc rfl)) ?_
   refine .done ⟨by kernel_rfl, fun a25 g W25 y25 zz25 hk hg hV hR hP => ?_⟩
   obtain ⟨e4, -, -, -, -, -⟩ := hV
   replace e0 := (hR 0 rfl).trans e0
   replace e2 := (hR 2 rfl).trans e2
   replace e3 := (hR 3 rfl).trans e3
   replace e4 := e4.q
   replace D_cn := sa_keepL D_cn hk (by simp)
   replace D_ci := sa_keepL D_ci hk (by simp)
   replace D_v3_4 := sf_keepL D_v3_4 hk (by simp)
   replace own_b2_2 := own_keepL own_b2_2 hk (by simp [ne_bo_b2_2.symm, ne_bm_b2_2.symm])
   obtain ⟨own_bo, own_bm⟩ := hP
   replace own_bo : Own W25 bo [(.int .u8 (x.k)), (.int .i64 (x.n)), (.string (x.t)), (.slice cna (x.ns.length) cnc), (.slice cia (x.xs.length) cic), (.map (some bm)), (.int .i64 (tkE x (failK x.k (tkE x e ⟨#[107, 101, 121, 105, 100, 115]⟩ (textsE 16)) (wrongE [] (if tkB x e ⟨#[107, 101, 121, 105, 100, 115]⟩ (textsE 16) then textsL 16 (getV x ⟨#[107, 101, 121, 105, 100, 115]⟩) else []))) ⟨#[116, 104, 114, 101, 115, 104, 111, 108, 100]⟩ (numE 1 ((if tkB x e ⟨#[107, 101, 121, 105, 100, 115]⟩ (textsE 16) then textsL 16 (getV x ⟨#[107, 101, 121, 105, 100, 115]⟩) else []).length))))] 74 := own_bo
   replace own_bm : OwnM W25 bm (tkA x (tkA x A e ⟨#[107, 101, 121, 105, 100, 115]⟩ (textsE 16)) (failK x.k (tkE x e ⟨#[107, 101, 121, 105, 100, 115]⟩ (textsE 16)) (wrongE [] (if tkB x e ⟨#[107, 101, 121, 105, 100, 115]⟩ (textsE 16) then textsL 16 (getV x ⟨#[107, 101, 121, 105, 100, 115]⟩) else []))) ⟨#[116, 104, 114, 101, 115, 104, 111, 108, 100]⟩ (numE 1 ((if tkB x e ⟨#[107, 101, 121, 105, 100, 115]⟩ (textsE 16) then textsL 16 (getV x ⟨#[107, 101, 121, 105, 100, 115]⟩) else []).length))) := own_bm
   replace kw := keeps_L kw hk (in_cons (.inr (by simp)) (in_cons (.inr (by simp)) in_nil))
   clear hR hk hg
   refine tail_nil (hK24 _ _ ?_)
   refine wp_seq_k fun K26 hK26 => ?_
   refine wp_seq_k fun K27 hK27 => ?_
   refine rg mixed y25 zz25 ?_
   refine .i (sp_move (hbs rfl e0)) ?_
   refine .i (v := (.int .i64 (errK x.k (tkE x (failK x.k (tkE x e ⟨#[107, 101, 121, 105, 100, 115]⟩ (textsE 16)) (wrongE [] (if tkB x e ⟨#[107, 101, 121, 105, 100, 115]⟩ (textsE 16) then textsL 16 (getV x ⟨#[107, 101, 121, 105, 100, 115]⟩) else []))) ⟨#[116, 104, 114, 101, 115, 104, 111, 108, 100]⟩ (numE 1 ((if tkB x e ⟨#[107, 101, 121, 105, 100, 115]⟩ (textsE 16) then textsL 16 (getV x ⟨#[107, 101, 121, 105, 100, 115]⟩) else []).length)))))) (sp_call1 (φ1 := Is (.pointer (some ⟨bo, 0, none⟩))) ent24 (hlc rfl) (fun g u1 W hk hgk h1 => by have h1 : u1 = _ := h1; subst u1; exact Err_ok _ _ _ _ _ _ _ W _ (own_bo.ext hk))) ?_
   refine .i (sp_neq (hlc rfl) Has.cst) ?_
   refine .done ⟨by kernel_rfl, fun a28 g W28 y28 zz28 hk hg hV hR hP => ?_⟩
   obtain ⟨e22, -, -, -⟩ := hV
   replace e2 := (hR 2 rfl).trans e2
   replace e3 := (hR 3 rfl).trans e3
   replace e4 := (hR 4 rfl).trans e4
   replace D_cn := D_cn.ext hk
   replace D_ci := D_ci.ext hk
   replace D_v3_4 := D_v3_4.ext hk
   replace e22 := e22.q
   replace own_bo := own_bo.ext hk
   replace own_bm := own_bm.ext hk
   replace own_b2_2 := own_b2_2.ext hk
   replace kw := kw.x hk
   clear hR hk hg hP
   refine tail_nil (hK27 _ _ ?_)
   refine wp_cond_split e22 (fun hc => ?_) (fun hc => ?_)
   ·
    have hE := bne_iff_ne.1 hc
    refine wp_seq_k fun K29 hK29 => ?_
    refine rg mixed y28 zz28 ?_
    refine .i (v := (.agg #[(.int .i64 (0)), (.slice none 0 0)])) (sp_build (vs := []) Try.underlying27 z27 (pl27 Try.underlying27) trivial rfl) ?_
    refine .done ⟨by kernel_rfl, fun a30 g W30 y30 zz30 hk hg hV hR hP => ?_⟩
    obtain ⟨e23, -⟩ := hV
    replace e2 := (hR 2 rfl).trans e2
    replace D_cn := D_cn.ext hk
    replace D_ci := D_ci.ext hk
    replace D_v3_4 := D_v3_4.ext hk
    replace e23 := e23.q
    replace own_bo := own_bo.ext hk
    replace own_bm := own_bm.ext hk
    replace own_b2_2 := own_b2_2.ext hk
    replace kw := kw.x hk
    clear hR hk hg hP
    refine tail_store (b := b2_2) (o := 0) (v := (.agg #[(.int .i64 (0)), (.slice none 0 0)])) e2 e23 sz27 rfl own_b2_2 (lbr rfl) (all_cons rfl (all_cons rfl all_nil)) (fun W31 hs own_b2_2 => ?_)
    have own_b2_2 : Own W31 b2_2 [(.int .i64 (0)), (.slice none 0 0)] 27 := own_b2_2
    replace own_bo := own_store own_bo hs ne_bo_b2_2
    replace own_bm := ownM_store own_bm hs ne_bm_b2_2
    replace D_cn := sa_store D_cn hs (by simp)
    replace D_ci := sa_store D_ci hs (by simp)
    replace D_v3_4 := sf_store D_v3_4 hs (by simp)
    replace kw := keeps_store kw hs lo_b2_2
    clear hs
    refine tail_nil (hK29 _ _ ?_)
    refine wp_ret ?_
    refine (show bodyPost Try.prog Try.f23 _ .ret _ _ from retC (v := (.agg #[(.int .i64 (0)), (.slice none 0 0)])) rfl zz30 e2 own_b2_2 agg27 sz27 rfl (fun h => by cases h) rfl ⟨_, rfl, kw, ?_⟩)
    have hpa : partA x e = ⟨0, []⟩ := by rw [partA, if_pos (by rw [partE, e3P, h2]; exact hE)]
    refine ⟨?_, by rw [partE, e3P, h2]; exact own_bo, by rw [partM, e3P, h2]; exact own_bm⟩
    rw [hpa]
    exact sf_fr (rdAu_mk (rd_nil _) : Rd W31 (SF w [b2_2, bo, bm]) (Au.d (Au.mk (0) ([]))) _)
   ·
    have hE := bne_eq_false_iff_eq.1 hc
    refine wp_skip (hK26 _ _ ?_)
    refine wp_seq_k fun K32 hK32 => ?_
    refine rg mixed y28 zz28 ?_
    refine .i (sp_move (hbs rfl e4)) ?_
    refine .i (sp_move (hbs rfl e3)) ?_
    refine .i (v := (.agg #[(.int .i64 (if tkB x (failK x.k (tkE x e ⟨#[107, 101, 121, 105, 100, 115]⟩ (textsE 16)) (wrongE [] (if tkB x e ⟨#[107, 101, 121, 105, 100, 115]⟩ (textsE 16) then textsL 16 (getV x ⟨#[107, 101, 121, 105, 100, 115]⟩) else []))) ⟨#[116, 104, 114, 101, 115, 104, 111, 108, 100]⟩ (numE 1 ((if tkB x e ⟨#[107, 101, 121, 105, 100, 115]⟩ (textsE 16) then textsL 16 (getV x ⟨#[107, 101, 121, 105, 100, 115]⟩) else []).length)) then numV 1 ((if tkB x e ⟨#[107, 101, 121, 105, 100, 115]⟩ (textsE 16) then textsL 16 (getV x ⟨#[107, 101, 121, 105, 100, 115]⟩) else []).length) (getV x ⟨#[116, 104, 114, 101, 115, 104, 111, 108, 100]⟩) else 0)), (.slice v3_4a ((if tkB x e ⟨#[107, 101, 121, 105, 100, 115]⟩ (textsE 16) then textsL 16 (getV x ⟨#[107, 101, 121, 105, 100, 115]⟩) else []).length) v3_4c)])) (sp_build (vs := [(0, (.int .i64 (if tkB x (failK x.k (tkE x e ⟨#[107, 101, 121, 105, 100, 115]⟩ (textsE 16)) (wrongE [] (if tkB x e ⟨#[107, 101, 121, 105, 100, 115]⟩ (textsE 16) then textsL 16 (getV x ⟨#[107, 101, 121, 105, 100, 115]⟩) else []))) ⟨#[116, 104, 114, 101, 115, 104, 111, 108, 100]⟩ (numE 1 ((if tkB x e ⟨#[107, 101, 121, 105, 100, 115]⟩ (textsE 16) then textsL 16 (getV x ⟨#[107, 101, 121, 105, 100, 115]⟩) else []).length)) then numV 1 ((if tkB x e ⟨#[107, 101, 121, 105, 100, 115]⟩ (textsE 16) then textsL 16 (getV x ⟨#[107, 101, 121, 105, 100, 115]⟩) else []).length) (getV x ⟨#[116, 104, 114, 101, 115, 104, 111, 108, 100]⟩) else 0))), (1, (.slice v3_4a ((if tkB x e ⟨#[107, 101, 121, 105, 100, 115]⟩ (textsE 16) then textsL 16 (getV x ⟨#[107, 101, 121, 105, 100, 115]⟩) else []).length) v3_4c))]) Try.underlying27 z27 (pl27 Try.underlying27) ⟨rfl, (hlc rfl), rfl, (hlc rfl), trivial⟩ rfl) ?_
    refine .done ⟨by kernel_rfl, fun a33 g W33 y33 zz33 hk hg hV hR hP => ?_⟩
    obtain ⟨e26, -, -, -⟩ := hV
    replace e2 := (hR 2 rfl).trans e2
    replace D_cn := D_cn.ext hk
    replace D_ci := D_ci.ext hk
    replace D_v3_4 := D_v3_4.ext hk
    replace e26 := e26.q
    replace own_bo := own_bo.ext hk
    replace own_bm := own_bm.ext hk
    replace own_b2_2 := own_b2_2.ext hk
    replace kw := kw.x hk
    clear hR hk hg hP
    refine tail_store (b := b2_2) (o := 0) (v := (.agg #[(.int .i64 (if tkB x (failK x.k (tkE x e ⟨#[107, 101, 121, 105, 100, 115]⟩ (textsE 16)) (wrongE [] (if tkB x e ⟨#[107, 101, 121, 105, 100, 115]⟩ (textsE 16) then textsL 16 (getV x ⟨#[107, 101, 121, 105, 100, 115]⟩) else []))) ⟨#[116, 104, 114, 101, 115, 104, 111, 108, 100]⟩ (numE 1 ((if tkB x e ⟨#[107, 101, 121, 105, 100, 115]⟩ (textsE 16) then textsL 16 (getV x ⟨#[107, 101, 121, 105, 100, 115]⟩) else []).length)) then numV 1 ((if tkB x e ⟨#[107, 101, 121, 105, 100, 115]⟩ (textsE 16) then textsL 16 (getV x ⟨#[107, 101, 121, 105, 100, 115]⟩) else []).length) (getV x ⟨#[116, 104, 114, 101, 115, 104, 111, 108, 100]⟩) else 0)), (.slice v3_4a ((if tkB x e ⟨#[107, 101, 121, 105, 100, 115]⟩ (textsE 16) then textsL 16 (getV x ⟨#[107, 101, 121, 105, 100, 115]⟩) else []).length) v3_4c)])) e2 e26 sz27 rfl own_b2_2 (lbr rfl) (all_cons rfl (all_cons rfl all_nil)) (fun W34 hs own_b2_2 => ?_)
    have own_b2_2 : Own W34 b2_2 [(.int .i64 (if tkB x (failK x.k (tkE x e ⟨#[107, 101, 121, 105, 100, 115]⟩ (textsE 16)) (wrongE [] (if tkB x e ⟨#[107, 101, 121, 105, 100, 115]⟩ (textsE 16) then textsL 16 (getV x ⟨#[107, 101, 121, 105, 100, 115]⟩) else []))) ⟨#[116, 104, 114, 101, 115, 104, 111, 108, 100]⟩ (numE 1 ((if tkB x e ⟨#[107, 101, 121, 105, 100, 115]⟩ (textsE 16) then textsL 16 (getV x ⟨#[107, 101, 121, 105, 100, 115]⟩) else []).length)) then numV 1 ((if tkB x e ⟨#[107, 101, 121, 105, 100, 115]⟩ (textsE 16) then textsL 16 (getV x ⟨#[107, 101, 121, 105, 100, 115]⟩) else []).length) (getV x ⟨#[116, 104, 114, 101, 115, 104, 111, 108, 100]⟩) else 0)), (.slice v3_4a ((if tkB x e ⟨#[107, 101, 121, 105, 100, 115]⟩ (textsE 16) then textsL 16 (getV x ⟨#[107, 101, 121, 105, 100, 115]⟩) else []).length) v3_4c)] 27 := own_b2_2
    replace own_bo := own_store own_bo hs ne_bo_b2_2
    replace own_bm := ownM_store own_bm hs ne_bm_b2_2
    replace D_cn := sa_store D_cn hs (by simp)
    replace D_ci := sa_store D_ci hs (by simp)
    replace D_v3_4 := sf_store D_v3_4 hs (by simp)
    replace kw := keeps_store kw hs lo_b2_2
    clear hs
    refine tail_nil (hK32 _ _ ?_)
    refine wp_ret ?_
    refine (show bodyPost Try.prog Try.f23 _ .ret _ _ from retC (v := (.agg #[(.int .i64 (if tkB x (failK x.k (tkE x e ⟨#[107, 101, 121, 105, 100, 115]⟩ (textsE 16)) (wrongE [] (if tkB x e ⟨#[107, 101, 121, 105, 100, 115]⟩ (textsE 16) then textsL 16 (getV x ⟨#[107, 101, 121, 105, 100, 115]⟩) else []))) ⟨#[116, 104, 114, 101, 115, 104, 111, 108, 100]⟩ (numE 1 ((if tkB x e ⟨#[107, 101, 121, 105, 100, 115]⟩ (textsE 16) then textsL 16 (getV x ⟨#[107, 101, 121, 105, 100, 115]⟩) else []).length)) then numV 1 ((if tkB x e ⟨#[107, 101, 121, 105, 100, 115]⟩ (textsE 16) then textsL 16 (getV x ⟨#[107, 101, 121, 105, 100, 115]⟩) else []).length) (getV x ⟨#[116, 104, 114, 101, 115, 104, 111, 108, 100]⟩) else 0)), (.slice v3_4a ((if tkB x e ⟨#[107, 101, 121, 105, 100, 115]⟩ (textsE 16) then textsL 16 (getV x ⟨#[107, 101, 121, 105, 100, 115]⟩) else []).length) v3_4c)])) rfl zz33 e2 own_b2_2 agg27 sz27 rfl (fun h => by cases h) rfl ⟨_, rfl, kw, ?_⟩)
    have hpa : partA x e = ⟨thP x e, idsP x e⟩ := by rw [partA, if_neg (by rw [partE, e3P, h2]; exact fun h => h hE)]
    refine ⟨?_, by rw [partE, e3P, h2]; exact own_bo, by rw [partM, e3P, h2]; exact own_bm⟩
    rw [hpa]
    rw [thP, e3P, h2]
    exact sf_fr (rdAu_mk D_v3_4 : Rd W34 (SF w [b2_2, bo, bm]) (Au.d (Au.mk (if tkB x (failK x.k (tkE x e ⟨#[107, 101, 121, 105, 100, 115]⟩ (textsE 16)) (wrongE [] (if tkB x e ⟨#[107, 101, 121, 105, 100, 115]⟩ (textsE 16) then textsL 16 (getV x ⟨#[107, 101, 121, 105, 100, 115]⟩) else []))) ⟨#[116, 104, 114, 101, 115, 104, 111, 108, 100]⟩ (numE 1 ((if tkB x e ⟨#[107, 101, 121, 105, 100, 115]⟩ (textsE 16) then textsL 16 (getV x ⟨#[107, 101, 121, 105, 100, 115]⟩) else []).length)) then numV 1 ((if tkB x e ⟨#[107, 101, 121, 105, 100, 115]⟩ (textsE 16) then textsL 16 (getV x ⟨#[107, 101, 121, 105, 100, 115]⟩) else []).length) (getV x ⟨#[116, 104, 114, 101, 115, 104, 111, 108, 100]⟩) else 0) (if tkB x e ⟨#[107, 101, 121, 105, 100, 115]⟩ (textsE 16) then textsL 16 (getV x ⟨#[107, 101, 121, 105, 100, 115]⟩) else []))) _)
end Go.Proofs.Ytnobijngkpflcaa
namespace Go.Proofs.Ytnobijngkpflcaa
open Go.Eng
set_option maxRecDepth 100000 in
theorem authOf_ok (x : V) (hx : x.wt ≤ 1073741824) (w : World) (S : BSet) (v : Value) (hS : ∀ b o, S b o → Cln o) (hv : Rd w S x.d v) : Calls Try.prog 16 #[v] w (Ret w fun r W => ∃ r1, r = .tuple #[r1, .int .i64 (ofAE x)] ∧ Rd W (Fr w) (ofAV x).d r1) := by
  by_cases hof : ofE x = 0
  · skip
    obtain ⟨cn0a, cn0c, ci0a, ci0c, ev, ht0, D_cn0, D_ci0⟩ := rdV_out (rd_arg hv)
    subst ev
    refine enter Try.func16 rfl Try.ntmps16 (lbr rfl) fun a0 y0 zz0 harg => ?_
    have e0 : sl a0 0 = (.agg #[(.int .u8 (x.k)), (.int .i64 (x.n)), (.string (x.t)), (.slice cn0a (x.ns.length) cn0c), (.slice ci0a (x.xs.length) ci0c)]) := harg 0 (lbr rfl)
    have kw := Keeps.refl All w
    clear harg
    refine wp_seq_k fun K1 hK1 => ?_
    refine rg mixed y0 zz0 ?_
    refine .boxOp (v := (.agg #[(.int .u8 (x.k)), (.int .i64 (x.n)), (.string (x.t)), (.slice cn0a (x.ns.length) cn0c), (.slice ci0a (x.xs.length) ci0c)])) (hbs rfl e0) ?_
    refine .alloc z27 ?_
    refine .i (sp_assign Has.cst) ?_
    refine .done ⟨by kernel_rfl, fun a2 g W2 y2 zz2 hk hg hV hR hP => ?_⟩
    obtain ⟨-, ⟨b2_2, e2, hb2, own_b2_2⟩, ⟨b1_2, e1, hb1, own_b1_2⟩, -⟩ := hV
    have lo_b2_2 : w.heap.size ≤ b2_2 := Nat.le_trans kw.size (hg.lo _ _ hb2)
    have own_b2_2 : Own W2 b2_2 [(.int .i64 (0)), (.slice none 0 0)] 27 := own_b2_2
    have lo_b1_2 : w.heap.size ≤ b1_2 := Nat.le_trans kw.size (hg.lo _ _ hb1)
    have own_b1_2 : Own W2 b1_2 [(.int .u8 (x.k)), (.int .i64 (x.n)), (.string (x.t)), (.slice cn0a (x.ns.length) cn0c), (.slice ci0a (x.xs.length) ci0c)] 33 := own_b1_2
    have ne_b2_2_b1_2 : b2_2 ≠ b1_2 := fun h => by have := hg.inj _ _ _ hb2 (h ▸ hb1); cases this
    replace D_cn0 := sa_more D_cn0 hk [b2_2, b1_2] (in_cons (hg.lo _ _ hb2) (in_cons (hg.lo _ _ hb1) in_nil))
    replace D_ci0 := sa_more D_ci0 hk [b2_2, b1_2] (in_cons (hg.lo _ _ hb2) (in_cons (hg.lo _ _ hb1) in_nil))
    replace kw := kw.x hk
    clear hR hk hg hP hb2 hb1
    refine tail_nil (hK1 _ _ ?_)
    refine wp_seq_k fun K3 hK3 => ?_
    refine wp_seq_k fun K4 hK4 => ?_
    refine rg mixed y2 zz2 ?_
    refine .i (v := (.agg #[(.int .u8 (x.k)), (.int .i64 (x.n)), (.string (x.t)), (.slice cn0a (x.ns.length) cn0c), (.slice ci0a (x.xs.length) ci0c)])) (loA (hbs rfl e1) own_b1_2 trivial agg33 sz33 rfl rfl) ?_
    refine .i (v := (.bool (mayB (x)))) (sp_call1 (φ1 := IsD (SA w S [b2_2, b1_2]) (V.d (x))) ent76 ((hlc rfl).dat (rdV_in (x := x) ht0 D_cn0 D_ci0 : Rd W2 (SA w S [b2_2, b1_2]) (V.d (x)) _) sub_all) (fun g u1 W hk hgk h1 => May_ok (x) (Nat.le_trans (cnt_wt x) hx) W _ _ h1)) ?_
    refine .i (sp_not (hlc rfl)) ?_
    refine .done ⟨by kernel_rfl, fun a5 g W5 y5 zz5 hk hg hV hR hP => ?_⟩
    obtain ⟨e9, -, -, -⟩ := hV
    replace e2 := (hR 2 rfl).trans e2
    replace e1 := (hR 1 rfl).trans e1
    replace D_cn0 := D_cn0.ext hk
    replace D_ci0 := D_ci0.ext hk
    have e9 : sl a5 9 = (.bool (!(mayB (x)))) := e9
    replace own_b2_2 := own_b2_2.ext hk
    replace own_b1_2 := own_b1_2.ext hk
    replace kw := kw.x hk
    clear hR hk hg hP
    refine tail_nil (hK4 _ _ ?_)
    refine wp_cond_split e9 (fun hc => ?_) (fun hc => ?_)
    ·
     have hm : mayB x = false := by simpa using hc
     have hoe : ofAE x = 3 := by rw [ofAE, if_pos hm]
     have hov : ofAV x = ⟨0, []⟩ := by rw [ofAV, hoe]; rfl
     refine wp_seq_k fun K6 hK6 => ?_
     refine rg mixed y5 zz5 ?_
     refine .i (v := (.agg #[(.int .i64 (0)), (.slice none 0 0)])) (sp_build (vs := []) Try.underlying27 z27 (pl27 Try.underlying27) trivial rfl) ?_
     refine .done ⟨by kernel_rfl, fun a7 g W7 y7 zz7 hk hg hV hR hP => ?_⟩
     obtain ⟨e10, -⟩ := hV
     replace e2 := (hR 2 rfl).trans e2
     replace D_cn0 := D_cn0.ext hk
     replace D_ci0 := D_ci0.ext hk
     replace e10 := e10.q
     replace own_b2_2 := own_b2_2.ext hk
     replace own_b1_2 := own_b1_2.ext hk
     replace kw := kw.x hk
     clear hR hk hg hP
     refine tail_store (b := b2_2) (o := 0) (v := (.agg #[(.int .i64 (0)), (.slice none 0 0)])) e2 e10 sz27 rfl own_b2_2 (lbr rfl) (all_cons rfl (all_cons rfl all_nil)) (fun W8 hs own_b2_2 => ?_)
     have own_b2_2 : Own W8 b2_2 [(.int .i64 (0)), (.slice none 0 0)] 27 := own_b2_2
     replace own_b1_2 := own_store own_b1_2 hs ne_b2_2_b1_2.symm
     replace D_cn0 := sa_store D_cn0 hs (by simp)
     replace D_ci0 := sa_store D_ci0 hs (by simp)
     replace kw := keeps_store kw hs lo_b2_2
     clear hs
     refine tail_assign (v := (.int .i64 (3))) rfl (by rw [y7]; exact Nat.le_of_ble_eq_true rfl) (fun a9 y9 zz9 e3 hr => ?_)
     replace y9 := y9.trans y7; replace zz9 := zz9.trans zz7
     replace e2 := (hr 2 (by decide)).trans e2
     replace e10 := (hr 10 (by decide)).trans e10
     clear hr
     refine tail_nil (hK6 _ _ ?_)
     refine wp_ret ?_
     refine (show bodyPost Try.prog Try.f16 _ .ret _ _ from retCT (v := (.agg #[(.int .i64 (0)), (.slice none 0 0)])) rfl zz9 e2 own_b2_2 agg27 sz27 rfl (fun h => by cases h) rfl e3 ⟨_, rfl, kw, ?_⟩)
     refine ⟨_, by rw [hoe], ?_⟩
     rw [hov]
     exact sf_fr (rdAu_mk (rd_nil _) : Rd W8 (SF w [b2_2, b1_2]) (Au.d (Au.mk (0) ([]))) _)
    ·
     have hm : ¬ mayB x = false := by simpa using hc
     refine wp_skip (hK3 _ _ ?_)
     refine wp_seq_k fun K10 hK10 => ?_
     refine rg mixed y5 zz5 ?_
     refine .i (v := (.agg #[(.int .u8 (x.k)), (.int .i64 (x.n)), (.string (x.t)), (.slice cn0a (x.ns.length) cn0c), (.slice ci0a (x.xs.length) ci0c)])) (loA (hbs rfl e1) own_b1_2 trivial agg33 sz33 rfl rfl) ?_
     refine .op (φ := IsPk W5 74 (x) ([]) (0)) st_pk (sp_call1 (φ1 := IsD (SA w S [b2_2, b1_2]) (V.d (x))) ent21 ((hlc rfl).dat (rdV_in (x := x) ht0 D_cn0 D_ci0 : Rd W5 (SA w S [b2_2, b1_2]) (V.d (x)) _) sub_all) (fun g u1 W hk hgk h1 => (Of_ok (x) hx hof W _ _ (fun b o h => sa_cln hS b o h.1) h1).mono (fun _ _ ⟨v, h1, h2, h3⟩ => ⟨v, h1, h2, pk_up hk h3⟩))) ?_
     refine .done ⟨by kernel_rfl, fun a11 g W11 y11 zz11 hk hg hV hR hP => ?_⟩
     obtain ⟨e12, -, -⟩ := hV
     replace e2 := (hR 2 rfl).trans e2
     obtain ⟨bo12_11, bm12_11, cn12_11v, ci12_11v, e12, lr_bo12_11, lr_bm12_11, ne_bo12_11_bm12_11, own_bo12_11, own_bm12_11, D_cn12_11, D_ci12_11, tb12_11⟩ := e12
     obtain ⟨cn12_11a, cn12_11c, ev, D2⟩ := rdS_out D_cn12_11; subst ev; replace D_cn12_11 := D2; clear D2
     obtain ⟨ci12_11a, ci12_11c, ev, D2⟩ := rdVs_out D_ci12_11; subst ev; replace D_ci12_11 := D2; clear D2
     have e12 : sl a11 12 = (.pointer (some ⟨bo12_11, 0, none⟩)) := e12
     have lo_bo12_11 : w.heap.size ≤ bo12_11 := Nat.le_trans kw.size lr_bo12_11
     have ne_b2_2_bo12_11 : b2_2 ≠ bo12_11 := Nat.ne_of_lt (Nat.lt_of_lt_of_le own_b2_2.lt lr_bo12_11)
     have ne_b1_2_bo12_11 : b1_2 ≠ bo12_11 := Nat.ne_of_lt (Nat.lt_of_lt_of_le own_b1_2.lt lr_bo12_11)
     have lo_bm12_11 : w.heap.size ≤ bm12_11 := Nat.le_trans kw.size lr_bm12_11
     have ne_b2_2_bm12_11 : b2_2 ≠ bm12_11 := Nat.ne_of_lt (Nat.lt_of_lt_of_le own_b2_2.lt lr_bm12_11)
     have ne_b1_2_bm12_11 : b1_2 ≠ bm12_11 := Nat.ne_of_lt (Nat.lt_of_lt_of_le own_b1_2.lt lr_bm12_11)
     replace D_cn0 : Rd W11 (SA w S [bo12_11, bm12_11, b2_2, b1_2]) (strsD (x.ns)) (.slice cn0a (x.ns.length) cn0c) := sa_more D_cn0 hk [bo12_11, bm12_11] (in_cons lr_bo12_11 (in_cons lr_bm12_11 in_nil))
     replace D_ci0 : Rd W11 (SA w S [bo12_11, bm12_11, b2_2, b1_2]) (valsD (x.xs)) (.slice ci0a (x.xs.length) ci0c) := sa_more D_ci0 hk [bo12_11, bm12_11] (in_cons lr_bo12_11 (in_cons lr_bm12_11 in_nil))
     replace D_cn12_11 : Rd W11 (SF w [bo12_11, bm12_11, b2_2, b1_2]) (strsD (x.ns)) (.slice cn12_11a (x.ns.length) cn12_11c) := pk_data kw (in_cons own_b2_2.lt (in_cons own_b1_2.lt in_nil)) D_cn12_11
     replace D_ci12_11 : Rd W11 (SF w [bo12_11, bm12_11, b2_2, b1_2]) (valsD (x.xs)) (.slice ci12_11a (x.xs.length) ci12_11c) := pk_data kw (in_cons own_b2_2.lt (in_cons own_b1_2.lt in_nil)) D_ci12_11
     have own_bo12_11 : Own W11 bo12_11 [(.int .u8 (x.k)), (.int .i64 (x.n)), (.string (x.t)), (.slice cn12_11a (x.ns.length) cn12_11c), (.slice ci12_11a (x.xs.length) ci12_11c), (.map (some bm12_11)), (.int .i64 (0))] 74 := own_bo12_11
     have own_bm12_11 : OwnM W11 bm12_11 ([]) := own_bm12_11
     replace own_b2_2 := own_b2_2.ext hk
     replace own_b1_2 := own_b1_2.ext hk
     replace kw := kw.x hk
     clear hR hk hg hP lr_bo12_11 lr_bm12_11
     refine tail_assign (v := (.pointer (some ⟨bo12_11, 0, none⟩))) e12 (by rw [y11]; exact Nat.le_of_ble_eq_true rfl) (fun a12 y12 zz12 e4 hr => ?_)
     replace y12 := y12.trans y11; replace zz12 := zz12.trans zz11
     replace e2 := (hr 2 (by decide)).trans e2
     replace e12 := (hr 12 (by decide)).trans e12
     clear hr
     refine tail_nil (hK10 _ _ ?_)
     refine wp_seq_k fun K13 hK13 => ?_
     refine wp_reg (fun k => k ∉ [bo12_11, bm12_11]) (Ψ := fun W => Own W bo12_11 [(.int .u8 (x.k)), (.int .i64 (x.n)), (.string (x.t)), (.slice cn12_11a (x.ns.length) cn12_11c), (.slice ci12_11a (x.xs.length) ci12_11c), (.map (some bm12_11)), (.int .i64 (0))] 74 ∧ OwnM W bm12_11 ([])) mixed y12 zz12 (stE_and stE_own stE_ownM) ⟨own_bo12_11, own_bm12_11⟩ ?_
     refine .i (sp_move (hbs rfl e4)) ?_
     refine .callL1 (φ1 := Is (.pointer (some ⟨bo12_11, 0, none⟩))) (φ := IsD (Fr W11) (Au.d (partA x 0))) (Ψ' := fun W => Own W bo12_11 [(.int .u8 (x.k)), (.int .i64 (x.n)), (.string (x.t)), (.slice cn12_11a (x.ns.length) cn12_11c), (.slice ci12_11a (x.xs.length) ci12_11c), (.map (some bm12_11)), (.int .i64 (partE x 0))] 74 ∧ OwnM W bm12_11 (partM x ([]) 0)) ent23 (hlc rfl) (st_d (sub_frnl (in_cons own_bo12_11.lt (in_cons own_bm12_11.lt in_nil)))) (stE_and stE_own stE_ownM) (fun g u1 W hk hg h1 hP => by have h1 : u1 = _ := h1; subst u1; exact (Part_ok (x) ([]) (0) (AB.nil.mono (by omega)) hx tb12_11 W _ _ _ _ _ (fun b o h => h.2.1) (sf_notin (by simp)) ne_bo12_11_bm12_11 (sf_keepL D_cn12_11 hk (by simp)) (sf_keepL D_ci12_11 hk (by simp)) hP.1 hP.2).mono (fun _ _ ⟨v, h1, h2, h3, h4⟩ => ⟨v, h1, h2, fresh_d hk hg h3, h4⟩)) ?_
     refine .done ⟨by kernel_rfl, fun a14 g W14 y14 zz14 hk hg hV hR hP => ?_⟩
     obtain ⟨e14, -, -⟩ := hV
     replace e2 := (hR 2 rfl).trans e2
     replace e4 := (hR 4 rfl).trans e4
     obtain ⟨v14_14, ev⟩ : ∃ v, sl a14 14 = v := ⟨_, rfl⟩
     rw [ev] at e14
     have D_v14_14 : Rd W14 (SF w [bo12_11, bm12_11, b2_2, b1_2]) (Au.d (partA x 0)) v14_14 := fr_end (M := [bo12_11, bm12_11, b2_2, b1_2]) e14 kw [] in_nil (in_cons own_bo12_11.lt (in_cons own_bm12_11.lt (in_cons own_b2_2.lt (in_cons own_b1_2.lt in_nil))))
     replace e14 := ev; clear ev
     obtain ⟨v14_14_1a, v14_14_1c, ev, D_v14_14_1⟩ := rdAu_out D_v14_14
     subst ev; clear D_v14_14
     replace D_cn12_11 := sf_keepL D_cn12_11 hk (by simp)
     replace D_ci12_11 := sf_keepL D_ci12_11 hk (by simp)
     replace own_b2_2 := own_keepL own_b2_2 hk (by simp [ne_b2_2_bo12_11, ne_b2_2_bm12_11])
     replace own_b1_2 := own_keepL own_b1_2 hk (by simp [ne_b1_2_bo12_11, ne_b1_2_bm12_11])
     obtain ⟨own_bo12_11, own_bm12_11⟩ := hP
     replace own_bo12_11 : Own W14 bo12_11 [(.int .u8 (x.k)), (.int .i64 (x.n)), (.string (x.t)), (.slice cn12_11a (x.ns.length) cn12_11c), (.slice ci12_11a (x.xs.length) ci12_11c), (.map (some bm12_11)), (.int .i64 (partE x 0))] 74 := own_bo12_11
     replace own_bm12_11 : OwnM W14 bm12_11 (partM x ([]) 0) := own_bm12_11
     replace kw := keeps_L kw hk (in_cons (.inl lo_bo12_11) (in_cons (.inl lo_bm12_11) in_nil))
     clear hR hk hg
     refine tail_reg 1 All y14 zz14 st_tr trivial rfl ?_
     refine .alloc z27 ?_
     refine .done ⟨by kernel_rfl, fun a15 g W15 y15 zz15 hk hg hV hR hP => ?_⟩
     refine tail_nil ?_
     show runTail _ _ _ _ _ _
     obtain ⟨⟨b5_15, e5, hb5, own_b5_15⟩, -⟩ := hV
     have lo_b5_15 : w.heap.size ≤ b5_15 := Nat.le_trans kw.size (hg.lo _ _ hb5)
     have ne_b2_2_b5_15 : b2_2 ≠ b5_15 := Nat.ne_of_lt (Nat.lt_of_lt_of_le own_b2_2.lt (hg.lo _ _ hb5))
     have ne_b1_2_b5_15 : b1_2 ≠ b5_15 := Nat.ne_of_lt (Nat.lt_of_lt_of_le own_b1_2.lt (hg.lo _ _ hb5))
     have ne_bo12_11_b5_15 : bo12_11 ≠ b5_15 := Nat.ne_of_lt (Nat.lt_of_lt_of_le own_bo12_11.lt (hg.lo _ _ hb5))
     have ne_bm12_11_b5_15 : bm12_11 ≠ b5_15 := Nat.ne_of_lt (Nat.lt_of_lt_of_le own_bm12_11.lt (hg.lo _ _ hb5))
     have own_b5_15 : Own W15 b5_15 [(.int .i64 (0)), (.slice none 0 0)] 27 := own_b5_15
     replace e2 := (hR 2 rfl).trans e2
     replace e4 := (hR 4 rfl).trans e4
     replace e14 := (hR 14 rfl).trans e14
     replace D_cn12_11 := sf_more D_cn12_11 hk [b5_15] (in_cons (hg.lo _ _ hb5) in_nil)
     replace D_ci12_11 := sf_more D_ci12_11 hk [b5_15] (in_cons (hg.lo _ _ hb5) in_nil)
     replace D_v14_14_1 := sf_more D_v14_14_1 hk [b5_15] (in_cons (hg.lo _ _ hb5) in_nil)
     replace own_b2_2 := own_b2_2.ext hk
     replace own_b1_2 := own_b1_2.ext hk
     replace own_bo12_11 := own_bo12_11.ext hk
     replace own_bm12_11 := own_bm12_11.ext hk
     replace kw := kw.x hk
     clear hR hk hg hP hb5
     refine tail_store (b := b5_15) (o := 0) (v := (.agg #[(.int .i64 ((partA x 0).th)), (.slice v14_14_1a (((partA x 0).ids).length) v14_14_1c)])) e5 e14 sz27 rfl own_b5_15 (lbr rfl) (all_cons rfl (all_cons rfl all_nil)) (fun W16 hs own_b5_15 => ?_)
     have own_b5_15 : Own W16 b5_15 [(.int .i64 ((partA x 0).th)), (.slice v14_14_1a (((partA x 0).ids).length) v14_14_1c)] 27 := own_b5_15
     replace own_b2_2 := own_store own_b2_2 hs ne_b2_2_b5_15
     replace own_b1_2 := own_store own_b1_2 hs ne_b1_2_b5_15
     replace own_bo12_11 := own_store own_bo12_11 hs ne_bo12_11_b5_15
     replace own_bm12_11 := ownM_store own_bm12_11 hs ne_bm12_11_b5_15
     replace D_cn12_11 := sf_store D_cn12_11 hs (by simp)
     replace D_ci12_11 := sf_store D_ci12_11 hs (by simp)
     replace D_v14_14_1 := sf_store D_v14_14_1 hs (by simp)
     replace kw := keeps_store kw hs lo_b5_15
     clear hs
     refine tail_nil (hK13 _ _ ?_)
     refine wp_seq_k fun K17 hK17 => ?_
     refine wp_seq_k fun K18 hK18 => ?_
     refine rg mixed y15 zz15 ?_
     refine .i (sp_move (hbs rfl e4)) ?_
     refine .i (v := (.int .i64 (doneE x (partM x ([]) 0) (partE x 0)))) (sp_call1 (φ1 := Is (.pointer (some ⟨bo12_11, 0, none⟩))) ent32 (hlc rfl) (fun g u1 W hk hgk h1 => by have h1 : u1 = _ := h1; subst u1; exact Done_ok (x) (partM x ([]) 0) (partE x 0) W _ _ _ _ _ (D_cn12_11.ext hk) (own_bo12_11.ext hk) (own_bm12_11.ext hk))) ?_
     refine .i (sp_assign (hlc rfl)) ?_
     refine .done ⟨by kernel_rfl, fun a19 g W19 y19 zz19 hk hg hV hR hP => ?_⟩
     obtain ⟨e6, -, -, -⟩ := hV
     replace e2 := (hR 2 rfl).trans e2
     replace e5 := (hR 5 rfl).trans e5
     replace D_cn12_11 := D_cn12_11.ext hk
     replace D_ci12_11 := D_ci12_11.ext hk
     replace D_v14_14_1 := D_v14_14_1.ext hk
     replace e6 := e6.q
     replace own_b2_2 := own_b2_2.ext hk
     replace own_b1_2 := own_b1_2.ext hk
     replace own_bo12_11 := own_bo12_11.ext hk
     replace own_bm12_11 := own_bm12_11.ext hk
     replace own_b5_15 := own_b5_15.ext hk
     replace kw := kw.x hk
     clear hR hk hg hP
     refine tail_nil (hK18 _ _ ?_)
     refine wp_seq_k fun K20 hK20 => ?_
     refine rg mixed y19 zz19 ?_
     refine .i (sp_move (hbs rfl e6)) ?_
     refine .i (sp_neq (hlc rfl) Has.cst) ?_
     refine .done ⟨by kernel_rfl, fun a21 g W21 y21 zz21 hk hg hV hR hP => ?_⟩
     obtain ⟨e18, -, -⟩ := hV
     replace e2 := (hR 2 rfl).trans e2
     replace e5 := (hR 5 rfl).trans e5
     replace e6 := (hR 6 rfl).trans e6
     replace D_v14_14_1 := D_v14_14_1.ext hk
     replace e18 := e18.q
     replace own_b2_2 := own_b2_2.ext hk
     replace own_b1_2 := own_b1_2.ext hk
     replace own_bo12_11 := own_bo12_11.ext hk
     replace own_bm12_11 := own_bm12_11.ext hk
     replace own_b5_15 := own_b5_15.ext hk
     replace kw := kw.x hk
     clear hR hk hg hP
     refine tail_nil (hK20 _ _ ?_)
     refine wp_cond_split e18 (fun hc => ?_) (fun hc => ?_)
     ·
      have hd := bne_iff_ne.1 hc
      have hoe : ofAE x = doneE x (partM x [] 0) (partE x 0) := by rw [ofAE, if_neg hm, if_neg (by simp [hof])]
      have hov : ofAV x = ⟨0, []⟩ := by rw [ofAV, if_neg (by rw [hoe]; exact hd)]
      refine wp_seq_k fun K22 hK22 => ?_
      refine rg mixed y21 zz21 ?_
      refine .i (v := (.agg #[(.int .i64 (0)), (.slice none 0 0)])) (sp_build (vs := []) Try.underlying27 z27 (pl27 Try.underlying27) trivial rfl) ?_
      refine .i (sp_move (hbs rfl e6)) ?_
      refine .done ⟨by kernel_rfl, fun a23 g W23 y23 zz23 hk hg hV hR hP => ?_⟩
      obtain ⟨e20, e19, -⟩ := hV
      replace e2 := (hR 2 rfl).trans e2
      replace D_v14_14_1 := D_v14_14_1.ext hk
      replace e19 := e19.q
      replace e20 := e20.q
      replace own_b2_2 := own_b2_2.ext hk
      replace own_b1_2 := own_b1_2.ext hk
      replace own_bo12_11 := own_bo12_11.ext hk
      replace own_bm12_11 := own_bm12_11.ext hk
      replace own_b5_15 := own_b5_15.ext hk
      replace kw := kw.x hk
      clear hR hk hg hP
      refine tail_store (b := b2_2) (o := 0) (v := (.agg #[(.int .i64 (0)), (.slice none 0 0)])) e2 e19 sz27 rfl own_b2_2 (lbr rfl) (all_cons rfl (all_cons rfl all_nil)) (fun W24 hs own_b2_2 => ?_)
      have own_b2_2 : Own W24 b2_2 [(.int .i64 (0)), (.slice none 0 0)] 27 := own_b2_2
      replace own_b1_2 := own_store own_b1_2 hs ne_b2_2_b1_2.symm
      replace own_bo12_11 := own_store own_bo12_11 hs ne_b2_2_bo12_11.symm
      replace own_bm12_11 := ownM_store own_bm12_11 hs ne_b2_2_bm12_11.symm
      replace own_b5_15 := own_store own_b5_15 hs ne_b2_2_b5_15.symm
      replace D_v14_14_1 := sf_store D_v14_14_1 hs (by simp)
      replace kw := keeps_store kw hs lo_b2_2
      clear hs
      refine tail_assign (v := (.int .i64 (doneE x (partM x ([]) 0) (partE x 0)))) e20 (by rw [y23]; exact Nat.le_of_ble_eq_true rfl) (fun a25 y25 zz25 e3 hr => ?_)
      replace y25 := y25.trans y23; replace zz25 := zz25.trans zz23
      replace e2 := (hr 2 (by decide)).trans e2
      replace e19 := (hr 19 (by decide)).trans e19
      replace e20 := (hr 20 (by decide)).trans e20
      clear hr
      refine tail_nil (hK22 _ _ ?_)
      refine wp_ret ?_
      refine (show bodyPost Try.prog Try.f16 _ .ret _ _ from retCT (v := (.agg #[(.int .i64 (0)), (.slice none 0 0)])) rfl zz25 e2 own_b2_2 agg27 sz27 rfl (fun h => by cases h) rfl e3 ⟨_, rfl, kw, ?_⟩)
      refine ⟨_, by rw [hoe], ?_⟩
      rw [hov]
      exact sf_fr (rdAu_mk (rd_nil _) : Rd W24 (SF w [b5_15, bo12_11, bm12_11, b2_2, b1_2]) (Au.d (Au.mk (0) ([]))) _)
     ·
      have hd := bne_eq_false_iff_eq.1 hc
      have hoe : ofAE x = 0 := by rw [ofAE, if_neg hm, if_neg (by simp [hof])]; exact hd
      have hov : ofAV x = partA x 0 := by rw [ofAV, if_pos hoe]
      refine wp_skip (hK17 _ _ ?_)
      refine wp_seq_k fun K26 hK26 => ?_
      refine rg mixed y21 zz21 ?_
      refine .i (v := (.agg #[(.int .i64 ((partA x 0).th)), (.slice v14_14_1a (((partA x 0).ids).length) v14_14_1c)])) (loA (hbs rfl e5) own_b5_15 trivial agg27 sz27 rfl rfl) ?_
      refine .done ⟨by kernel_rfl, fun a27 g W27 y27 zz27 hk hg hV hR hP => ?_⟩
      obtain ⟨e21, -⟩ := hV
      replace e2 := (hR 2 rfl).trans e2
      replace D_v14_14_1 := D_v14_14_1.ext hk
      replace e21 := e21.q
      replace own_b2_2 := own_b2_2.ext hk
      replace own_b1_2 := own_b1_2.ext hk
      replace own_bo12_11 := own_bo12_11.ext hk
      replace own_bm12_11 := own_bm12_11.ext hk
      replace own_b5_15 := own_b5_15.ext hk
      replace kw := kw.x hk
      clear hR hk hg hP
      refine tail_store (b := b2_2) (o := 0) (v := (.agg #[(.int .i64 ((partA x 0).th)), (.slice v14_14_1a (((partA x 0).ids).length) v14_14_1c)])) e2 e21 sz27 rfl own_b2_2 (lbr rfl) (all_cons rfl (all_cons rfl all_nil)) (fun W28 hs own_b2_2 => ?_)
      have own_b2_2 : Own W28 b2_2 [(.int .i64 ((partA x 0).th)), (.slice v14_14_1a (((partA x 0).ids).length) v14_14_1c)] 27 := own_b2_2
      replace own_b1_2 := own_store own_b1_2 hs ne_b2_2_b1_2.symm
      replace own_bo12_11 := own_store own_bo12_11 hs ne_b2_2_bo12_11.symm
      replace own_bm12_11 := ownM_store own_bm12_11 hs ne_b2_2_bm12_11.symm
      replace own_b5_15 := own_store own_b5_15 hs ne_b2_2_b5_15.symm
      replace D_v14_14_1 := sf_store D_v14_14_1 hs (by simp)
      replace kw := keeps_store kw hs lo_b2_2
      clear hs
      refine tail_assign (v := (.int .i64 (0))) rfl (by rw [y27]; exact Nat.le_of_ble_eq_true rfl) (fun a29 y29 zz29 e3 hr => ?_)
      replace y29 := y29.trans y27; replace zz29 := zz29.trans zz27
      replace e2 := (hr 2 (by decide)).trans e2
      replace e21 := (hr 21 (by decide)).trans e21
      clear hr
      refine tail_nil (hK26 _ _ ?_)
      refine wp_ret ?_
      refine (show bodyPost Try.prog Try.f16 _ .ret _ _ from retCT (v := (.agg #[(.int .i64 ((partA x 0).th)), (.slice v14_14_1a (((partA x 0).ids).length) v14_14_1c)])) rfl zz29 e2 own_b2_2 agg27 sz27 rfl (fun h => by cases h) rfl e3 ⟨_, rfl, kw, ?_⟩)
      refine ⟨_, by rw [hoe], ?_⟩
      rw [hov]
      exact sf_fr (rdAu_mk D_v14_14_1 : Rd W28 (SF w [b5_15, bo12_11, bm12_11, b2_2, b1_2]) (Au.d ((partA x 0))) _)
  · have hE : errK 0 (ofE x) ≠ 0 := by rw [ofE_dead hof]; exact hof
    obtain ⟨cn0a, cn0c, ci0a, ci0c, ev, ht0, D_cn0, D_ci0⟩ := rdV_out (rd_arg hv)
    subst ev
    refine enter Try.func16 rfl Try.ntmps16 (lbr rfl) fun a0 y0 zz0 harg => ?_
    have e0 : sl a0 0 = (.agg #[(.int .u8 (x.k)), (.int .i64 (x.n)), (.string (x.t)), (.slice cn0a (x.ns.length) cn0c), (.slice ci0a (x.xs.length) ci0c)]) := harg 0 (lbr rfl)
    have kw := Keeps.refl All w
    clear harg
    refine wp_seq_k fun K1 hK1 => ?_
    refine rg mixed y0 zz0 ?_
    refine .boxOp (v := (.agg #[(.int .u8 (x.k)), (.int .i64 (x.n)), (.string (x.t)), (.slice cn0a (x.ns.length) cn0c), (.slice ci0a (x.xs.length) ci0c)])) (hbs rfl e0) ?_
    refine .alloc z27 ?_
    refine .i (sp_assign Has.cst) ?_
    refine .done ⟨by kernel_rfl, fun a2 g W2 y2 zz2 hk hg hV hR hP => ?_⟩
    obtain ⟨-, ⟨b2_2, e2, hb2, own_b2_2⟩, ⟨b1_2, e1, hb1, own_b1_2⟩, -⟩ := hV
    have lo_b2_2 : w.heap.size ≤ b2_2 := Nat.le_trans kw.size (hg.lo _ _ hb2)
    have own_b2_2 : Own W2 b2_2 [(.int .i64 (0)), (.slice none 0 0)] 27 := own_b2_2
    have lo_b1_2 : w.heap.size ≤ b1_2 := Nat.le_trans kw.size (hg.lo _ _ hb1)
    have own_b1_2 : Own W2 b1_2 [(.int .u8 (x.k)), (.int .i64 (x.n)), (.string (x.t)), (.slice cn0a (x.ns.length) cn0c), (.slice ci0a (x.xs.length) ci0c)] 33 := own_b1_2
    have ne_b2_2_b1_2 : b2_2 ≠ b1_2 := fun h => by have := hg.inj _ _ _ hb2 (h ▸ hb1); cases this
    replace D_cn0 := sa_more D_cn0 hk [b2_2, b1_2] (in_cons (hg.lo _ _ hb2) (in_cons (hg.lo _ _ hb1) in_nil))
    replace D_ci0 := sa_more D_ci0 hk [b2_2, b1_2] (in_cons (hg.lo _ _ hb2) (in_cons (hg.lo _ _ hb1) in_nil))
    replace kw := kw.x hk
    clear hR hk hg hP hb2 hb1
    refine tail_nil (hK1 _ _ ?_)
    refine wp_seq_k fun K3 hK3 => ?_
    refine wp_seq_k fun K4 hK4 => ?_
    refine rg mixed y2 zz2 ?_
    refine .i (v := (.agg #[(.int .u8 (x.k)), (.int .i64 (x.n)), (.string (x.t)), (.slice cn0a (x.ns.length) cn0c), (.slice ci0a (x.xs.length) ci0c)])) (loA (hbs rfl e1) own_b1_2 trivial agg33 sz33 rfl rfl) ?_
    refine .i (v := (.bool (mayB (x)))) (sp_call1 (φ1 := IsD (SA w S [b2_2, b1_2]) (V.d (x))) ent76 ((hlc rfl).dat (rdV_in (x := x) ht0 D_cn0 D_ci0 : Rd W2 (SA w S [b2_2, b1_2]) (V.d (x)) _) sub_all) (fun g u1 W hk hgk h1 => May_ok (x) (Nat.le_trans (cnt_wt x) hx) W _ _ h1)) ?_
    refine .i (sp_not (hlc rfl)) ?_
    refine .done ⟨by kernel_rfl, fun a5 g W5 y5 zz5 hk hg hV hR hP => ?_⟩
    obtain ⟨e9, -, -, -⟩ := hV
    replace e2 := (hR 2 rfl).trans e2
    replace e1 := (hR 1 rfl).trans e1
    replace D_cn0 := D_cn0.ext hk
    replace D_ci0 := D_ci0.ext hk
    have e9 : sl a5 9 = (.bool (!(mayB (x)))) := e9
    replace own_b2_2 := own_b2_2.ext hk
    replace own_b1_2 := own_b1_2.ext hk
    replace kw := kw.x hk
    clear hR hk hg hP
    refine tail_nil (hK4 _ _ ?_)
    refine wp_cond_split e9 (fun hc => ?_) (fun hc => ?_)
    ·
     have hm : mayB x = false := by simpa using hc
     have hoe : ofAE x = 3 := by rw [ofAE, if_pos hm]
     have hov : ofAV x = ⟨0, []⟩ := by rw [ofAV, hoe]; rfl
     refine wp_seq_k fun K6 hK6 => ?_
     refine rg mixed y5 zz5 ?_
     refine .i (v := (.agg #[(.int .i64 (0)), (.slice none 0 0)])) (sp_build (vs := []) Try.underlying27 z27 (pl27 Try.underlying27) trivial rfl) ?_
     refine .done ⟨by kernel_rfl, fun a7 g W7 y7 zz7 hk hg hV hR hP => ?_⟩
     obtain ⟨e10, -⟩ := hV
     replace e2 := (hR 2 rfl).trans e2
     replace D_cn0 := D_cn0.ext hk
     replace D_ci0 := D_ci0.ext hk
     replace e10 := e10.q
     replace own_b2_2 := own_b2_2.ext hk
     replace own_b1_2 := own_b1_2.ext hk
     replace kw := kw.x hk
     clear hR hk hg hP
     refine tail_store (b := b2_2) (o := 0) (v := (.agg #[(.int .i64 (0)), (.slice none 0 0)])) e2 e10 sz27 rfl own_b2_2 (lbr rfl) (all_cons rfl (all_cons rfl all_nil)) (fun W8 hs own_b2_2 => ?_)
     have own_b2_2 : Own W8 b2_2 [(.int .i64 (0)), (.slice none 0 0)] 27 := own_b2_2
     replace own_b1_2 := own_store own_b1_2 hs ne_b2_2_b1_2.symm
     replace D_cn0 := sa_store D_cn0 hs (by simp)
     replace D_ci0 := sa_store D_ci0 hs (by simp)
     replace kw := keeps_store kw hs lo_b2_2
     clear hs
     refine tail_assign (v := (.int .i64 (3))) rfl (by rw [y7]; exact Nat.le_of_ble_eq_true rfl) (fun a9 y9 zz9 e3 hr => ?_)
     replace y9 := y9.trans y7; replace zz9 := zz9.trans zz7
     replace e2 := (hr 2 (by decide)).trans e2
     replace e10 := (hr 10 (by decide)).trans e10
     clear hr
     refine tail_nil (hK6 _ _ ?_)
     refine wp_ret ?_
     refine (show bodyPost Try.prog Try.f16 _ .ret _ _ from retCT (v := (.agg #[(.int .i64 (0)), (.slice none 0 0)])) rfl zz9 e2 own_b2_2 agg27 sz27 rfl (fun h => by cases h) rfl e3 ⟨_, rfl, kw, ?_⟩)
     refine ⟨_, by rw [hoe], ?_⟩
     rw [hov]
     exact sf_fr (rdAu_mk (rd_nil _) : Rd W8 (SF w [b2_2, b1_2]) (Au.d (Au.mk (0) ([]))) _)
    ·
     have hm : ¬ mayB x = false := by simpa using hc
     refine wp_skip (hK3 _ _ ?_)
     refine wp_seq_k fun K10 hK10 => ?_
     refine rg mixed y5 zz5 ?_
     refine .i (v := (.agg #[(.int .u8 (x.k)), (.int .i64 (x.n)), (.string (x.t)), (.slice cn0a (x.ns.length) cn0c), (.slice ci0a (x.xs.length) ci0c)])) (loA (hbs rfl e1) own_b1_2 trivial agg33 sz33 rfl rfl) ?_
     refine .op (φ := IsPkD W5 74 (ofE x)) st_pkd (sp_call1 (φ1 := IsD (SA w S [b2_2, b1_2]) (V.d (x))) ent21 ((hlc rfl).dat (rdV_in (x := x) ht0 D_cn0 D_ci0 : Rd W5 (SA w S [b2_2, b1_2]) (V.d (x)) _) sub_all) (fun g u1 W hk hgk h1 => (OfD_ok (x) hof W _ _ h1).mono (fun _ _ ⟨v, h1, h2, h3⟩ => ⟨v, h1, h2, pkd_up hk h3⟩))) ?_
     refine .done ⟨by kernel_rfl, fun a11 g W11 y11 zz11 hk hg hV hR hP => ?_⟩
     obtain ⟨e12, -, -⟩ := hV
     replace e2 := (hR 2 rfl).trans e2
     obtain ⟨bo12_11, e12, lr_bo12_11, own_bo12_11⟩ := e12
     have e12 : sl a11 12 = (.pointer (some ⟨bo12_11, 0, none⟩)) := e12
     have lo_bo12_11 : w.heap.size ≤ bo12_11 := Nat.le_trans kw.size lr_bo12_11
     have ne_b2_2_bo12_11 : b2_2 ≠ bo12_11 := Nat.ne_of_lt (Nat.lt_of_lt_of_le own_b2_2.lt lr_bo12_11)
     have ne_b1_2_bo12_11 : b1_2 ≠ bo12_11 := Nat.ne_of_lt (Nat.lt_of_lt_of_le own_b1_2.lt lr_bo12_11)
     replace D_cn0 : Rd W11 (SA w S [bo12_11, b2_2, b1_2]) (strsD (x.ns)) (.slice cn0a (x.ns.length) cn0c) := sa_more D_cn0 hk [bo12_11] (in_cons lr_bo12_11 in_nil)
     replace D_ci0 : Rd W11 (SA w S [bo12_11, b2_2, b1_2]) (valsD (x.xs)) (.slice ci0a (x.xs.length) ci0c) := sa_more D_ci0 hk [bo12_11] (in_cons lr_bo12_11 in_nil)
     have own_bo12_11 : Own W11 bo12_11 [(.int .u8 (0)), (.int .i64 (0)), (.string (⟨#[]⟩)), (.slice none 0 0), (.slice none 0 0), (.map none), (.int .i64 (ofE x))] 74 := own_bo12_11
     replace own_b2_2 := own_b2_2.ext hk
     replace own_b1_2 := own_b1_2.ext hk
     replace kw := kw.x hk
     clear hR hk hg hP lr_bo12_11
     refine tail_assign (v := (.pointer (some ⟨bo12_11, 0, none⟩))) e12 (by rw [y11]; exact Nat.le_of_ble_eq_true rfl) (fun a12 y12 zz12 e4 hr => ?_)
     replace y12 := y12.trans y11; replace zz12 := zz12.trans zz11
     replace e2 := (hr 2 (by decide)).trans e2
     replace e12 := (hr 12 (by decide)).trans e12
     clear hr
     refine tail_nil (hK10 _ _ ?_)
     refine wp_seq_k fun K13 hK13 => ?_
     refine wp_reg (fun k => k ∉ [bo12_11]) (Ψ := fun W => Own W bo12_11 [(.int .u8 (0)), (.int .i64 (0)), (.string (⟨#[]⟩)), (.slice none 0 0), (.slice none 0 0), (.map none), (.int .i64 (ofE x))] 74) mixed y12 zz12 stE_own own_bo12_11 ?_
     refine .i (sp_move (hbs rfl e4)) ?_
     refine .callL1 (φ1 := Is (.pointer (some ⟨bo12_11, 0, none⟩))) (φ := Is (.agg #[(.int .i64 (0)), (.slice none 0 0)])) (Ψ' := fun W => Own W bo12_11 [(.int .u8 (0)), (.int .i64 (0)), (.string (⟨#[]⟩)), (.slice none 0 0), (.slice none 0 0), (.map none), (.int .i64 (ofE x))] 74) ent23 (hlc rfl) (st_is _) stE_own (fun g u1 W hk hg h1 hP => by have h1 : u1 = _ := h1; subst u1; exact (PartD_ok 0 _ _ _ _ _ (ofE x) hE W _ hP)) ?_
     refine .done ⟨by kernel_rfl, fun a14 g W14 y14 zz14 hk hg hV hR hP => ?_⟩
     obtain ⟨e14, -, -⟩ := hV
     replace e2 := (hR 2 rfl).trans e2
     replace e4 := (hR 4 rfl).trans e4
     replace e14 := e14.q
     replace own_b2_2 := own_keepL own_b2_2 hk (by simp [ne_b2_2_bo12_11])
     replace own_b1_2 := own_keepL own_b1_2 hk (by simp [ne_b1_2_bo12_11])
     have own_bo12_11 := hP
     replace own_bo12_11 : Own W14 bo12_11 [(.int .u8 (0)), (.int .i64 (0)), (.string (⟨#[]⟩)), (.slice none 0 0), (.slice none 0 0), (.map none), (.int .i64 (ofE x))] 74 := own_bo12_11
     replace kw := keeps_L kw hk (in_cons (.inl lo_bo12_11) in_nil)
     clear hR hk hg hP
     refine tail_reg 1 All y14 zz14 st_tr trivial rfl ?_
     refine .alloc z27 ?_
     refine .done ⟨by kernel_rfl, fun a15 g W15 y15 zz15 hk hg hV hR hP => ?_⟩
     refine tail_nil ?_
     show runTail _ _ _ _ _ _
     obtain ⟨⟨b5_15, e5, hb5, own_b5_15⟩, -⟩ := hV
     have lo_b5_15 : w.heap.size ≤ b5_15 := Nat.le_trans kw.size (hg.lo _ _ hb5)
     have ne_b2_2_b5_15 : b2_2 ≠ b5_15 := Nat.ne_of_lt (Nat.lt_of_lt_of_le own_b2_2.lt (hg.lo _ _ hb5))
     have ne_b1_2_b5_15 : b1_2 ≠ b5_15 := Nat.ne_of_lt (Nat.lt_of_lt_of_le own_b1_2.lt (hg.lo _ _ hb5))
     have ne_bo12_11_b5_15 : bo12_11 ≠ b5_15 := Nat.ne_of_lt (Nat.lt_of_lt_of_le own_bo12_11.lt (hg.lo _ _ hb5))
     have own_b5_15 : Own W15 b5_15 [(.int .i64 (0)), (.slice none 0 0)] 27 := own_b5_15
     replace e2 := (hR 2 rfl).trans e2
     replace e4 := (hR 4 rfl).trans e4
     replace e14 := (hR 14 rfl).trans e14
     replace own_b2_2 := own_b2_2.ext hk
     replace own_b1_2 := own_b1_2.ext hk
     replace own_bo12_11 := own_bo12_11.ext hk
     replace kw := kw.x hk
     clear hR hk hg hP hb5
     refine tail_store (b := b5_15) (o := 0) (v := (.agg #[(.int .i64 (0)), (.slice none 0 0)])) e5 e14 sz27 rfl own_b5_15 (lbr rfl) (all_cons rfl (all_cons rfl all_nil)) (fun W16 hs own_b5_15 => ?_)
     have own_b5_15 : Own W16 b5_15 [(.int .i64 (0)), (.slice none 0 0)] 27 := own_b5_15
     replace own_b2_2 := own_store own_b2_2 hs ne_b2_2_b5_15
     replace own_b1_2 := own_store own_b1_2 hs ne_b1_2_b5_15
     replace own_bo12_11 := own_store own_bo12_11 hs ne_bo12_11_b5_15
     replace kw := keeps_store kw hs lo_b5_15
     clear hs
     refine tail_nil (hK13 _ _ ?_)
     refine wp_seq_k fun K17 hK17 => ?_
     refine wp_seq_k fun K18 hK18 => ?_
     refine rg mixed y15 zz15 ?_
     refine .i (sp_move (hbs rfl e4)) ?_
     refine .i (v := (.int .i64 (errK 0 (ofE x)))) (sp_call1 (φ1 := Is (.pointer (some ⟨bo12_11, 0, none⟩))) ent32 (hlc rfl) (fun g u1 W hk hgk h1 => by have h1 : u1 = _ := h1; subst u1; exact DoneD_ok _ _ _ _ _ _ _ hE W _ (own_bo12_11.ext hk))) ?_
     refine .i (sp_assign (hlc rfl)) ?_
     refine .done ⟨by kernel_rfl, fun a19 g W19 y19 zz19 hk hg hV hR hP => ?_⟩
     obtain ⟨e6, -, -, -⟩ := hV
     replace e2 := (hR 2 rfl).trans e2
     replace e5 := (hR 5 rfl).trans e5
     have e6 : sl a19 6 = (.int .i64 (errK 0 (ofE x))) := e6
     replace own_b2_2 := own_b2_2.ext hk
     replace own_b1_2 := own_b1_2.ext hk
     replace own_bo12_11 := own_bo12_11.ext hk
     replace own_b5_15 := own_b5_15.ext hk
     replace kw := kw.x hk
     clear hR hk hg hP
     refine tail_nil (hK18 _ _ ?_)
     refine wp_seq_k fun K20 hK20 => ?_
     refine rg mixed y19 zz19 ?_
     refine .i (sp_move (hbs rfl e6)) ?_
     refine .i (sp_neq (hlc rfl) Has.cst) ?_
     refine .done ⟨by kernel_rfl, fun a21 g W21 y21 zz21 hk hg hV hR hP => ?_⟩
     obtain ⟨e18, -, -⟩ := hV
     replace e2 := (hR 2 rfl).trans e2
     replace e5 := (hR 5 rfl).trans e5
     replace e6 := (hR 6 rfl).trans e6
     replace e18 := e18.q
     replace own_b2_2 := own_b2_2.ext hk
     replace own_b1_2 := own_b1_2.ext hk
     replace own_bo12_11 := own_bo12_11.ext hk
     replace own_b5_15 := own_b5_15.ext hk
     replace kw := kw.x hk
     clear hR hk hg hP
     refine tail_nil (hK20 _ _ ?_)
     refine wp_cond_split e18 (fun hc => ?_) (fun hc => ?_)
     ·
      have hoe : ofAE x = errK 0 (ofE x) := by rw [ofAE, if_neg hm, if_pos hof, ofE_dead hof]
      have hov : ofAV x = ⟨0, []⟩ := by rw [ofAV, if_neg (by rw [hoe]; exact hE)]
      refine wp_seq_k fun K22 hK22 => ?_
      refine rg mixed y21 zz21 ?_
      refine .i (v := (.agg #[(.int .i64 (0)), (.slice none 0 0)])) (sp_build (vs := []) Try.underlying27 z27 (pl27 Try.underlying27) trivial rfl) ?_
      refine .i (sp_move (hbs rfl e6)) ?_
      refine .done ⟨by kernel_rfl, fun a23 g W23 y23 zz23 hk hg hV hR hP => ?_⟩
      obtain ⟨e20, e19, -⟩ := hV
      replace e2 := (hR 2 rfl).trans e2
      replace e19 := e19.q
      have e20 : sl a23 20 = (.int .i64 (errK 0 (ofE x))) := e20
      replace own_b2_2 := own_b2_2.ext hk
      replace own_b1_2 := own_b1_2.ext hk
      replace own_bo12_11 := own_bo12_11.ext hk
      replace own_b5_15 := own_b5_15.ext hk
      replace kw := kw.x hk
      clear hR hk hg hP
      refine tail_store (b := b2_2) (o := 0) (v := (.agg #[(.int .i64 (0)), (.slice none 0 0)])) e2 e19 sz27 rfl own_b2_2 (lbr rfl) (all_cons rfl (all_cons rfl all_nil)) (fun W24 hs own_b2_2 => ?_)
      have own_b2_2 : Own W24 b2_2 [(.int .i64 (0)), (.slice none 0 0)] 27 := own_b2_2
      replace own_b1_2 := own_store own_b1_2 hs ne_b2_2_b1_2.symm
      replace own_bo12_11 := own_store own_bo12_11 hs ne_b2_2_bo12_11.symm
      replace own_b5_15 := own_store own_b5_15 hs ne_b2_2_b5_15.symm
      replace kw := keeps_store kw hs lo_b2_2
      clear hs
      refine tail_assign (v := (.int .i64 (errK 0 (ofE x)))) e20 (by rw [y23]; exact Nat.le_of_ble_eq_true rfl) (fun a25 y25 zz25 e3 hr => ?_)
      replace y25 := y25.trans y23; replace zz25 := zz25.trans zz23
      replace e2 := (hr 2 (by decide)).trans e2
      replace e19 := (hr 19 (by decide)).trans e19
      replace e20 := (hr 20 (by decide)).trans e20
      clear hr
      refine tail_nil (hK22 _ _ ?_)
      refine wp_ret ?_
      refine (show bodyPost Try.prog Try.f16 _ .ret _ _ from retCT (v := (.agg #[(.int .i64 (0)), (.slice none 0 0)])) rfl zz25 e2 own_b2_2 agg27 sz27 rfl (fun h => by cases h) rfl e3 ⟨_, rfl, kw, ?_⟩)
      refine ⟨_, by rw [hoe], ?_⟩
      rw [hov]
      exact sf_fr (rdAu_mk (rd_nil _) : Rd W24 (SF w [b5_15, bo12_11, b2_2, b1_2]) (Au.d (Au.mk (0) ([]))) _)
     ·
      exact absurd (bne_eq_false_iff_eq.1 hc) hE
end Go.Proofs.Ytnobijngkpflcaa
namespace Go.Proofs.Ytnobijngkpflcaa
open Go.Eng
set_option maxRecDepth 100000 in
theorem awakeA_ok (w : World) : Calls Try.prog 14 #[] w (Ret w fun u _ => u = .bool true) := by
  refine enter Try.func14 rfl Try.ntmps14 (lbr rfl) fun a0 y0 zz0 harg => ?_
  have kw := Keeps.refl All w
  clear harg
  refine wp_seq_k fun K1 hK1 => ?_
  refine rg mixed y0 zz0 ?_
  refine .i (sp_assign Has.cst) ?_
  refine .done ⟨by kernel_rfl, fun a2 g W2 y2 zz2 hk hg hV hR hP => ?_⟩
  obtain ⟨-, -⟩ := hV
  replace kw := kw.x hk
  clear hR hk hg hP
  refine tail_nil (hK1 _ _ ?_)
  refine wp_seq_k fun K3 hK3 => ?_
  refine rg mixed y2 zz2 ?_
  refine .i (v := (.string (ofBytes (List.replicate (lit 64) (97 : Int))))) (sp_call1 (φ1 := Is (.int .u8 (97))) ent15 Has.cst (fun g u1 W hk hgk h1 => by have h1 : u1 = _ := h1; subst u1; exact id_ok 97 W)) ?_
  refine .i (sp_assign (hlc rfl)) ?_
  refine .done ⟨by kernel_rfl, fun a4 g W4 y4 zz4 hk hg hV hR hP => ?_⟩
  obtain ⟨e1, -, -⟩ := hV
  replace e1 := e1.q
  replace kw := kw.x hk
  clear hR hk hg hP
  refine tail_nil (hK3 _ _ ?_)
  refine wp_seq_k fun K5 hK5 => ?_
  refine rg mixed y4 zz4 ?_
  refine .i (sp_move (hbs rfl e1)) ?_
  refine .da (X := SF w []) (e := strsD ([ofBytes (List.replicate (lit 64) (97 : Int))])) (sp_bsl (ds := [D.str (ofBytes (List.replicate (lit 64) (97 : Int)))]) Try.underlying23 sz9 z9 (lbr rfl) (lbr rfl) ⟨rfl, ((hlc rfl).str (idb _)), trivial⟩ rfl (by simp [width]) (fr_sf kw in_nil)) ?_
  refine .da (X := Fr W4) (e := V.d (objV 1 ([ofBytes (List.replicate (lit 64) (97 : Int))]))) (sp_call2 (φ1 := Is (.int .i64 (1))) (φ2 := IsD (SF w []) (strsD ([ofBytes (List.replicate (lit 64) (97 : Int))]))) ent17 Has.cst (hlc rfl) (fun g u1 u2 W hk hgk h1 h2 => by have h1 : u1 = _ := h1; subst u1; exact (object_ok (1) ([ofBytes (List.replicate (lit 64) (97 : Int))]) (by simp) W _ _ h2).mono (ret_fr hk hgk))) ?_
  refine .op (φ := IsT (IsD (Fr W4) (Au.d (ofAV (objV 1 ([ofBytes (List.replicate (lit 64) (97 : Int))]))))) (Is (.int .i64 (ofAE (objV 1 ([ofBytes (List.replicate (lit 64) (97 : Int))])))))) (st_t (st_d sub_all) (st_is _)) (sp_call1 (φ1 := IsD (Fr W4) (V.d (objV 1 ([ofBytes (List.replicate (lit 64) (97 : Int))])))) ent16 (hlc rfl) (fun g u1 W hk hgk h1 => (authOf_ok (objV 1 ([ofBytes (List.replicate (lit 64) (97 : Int))])) (Nat.le_of_ble_eq_true (by kernel_rfl)) W _ _ (fun b o h => h.1.2) h1).mono (fun _ _ ⟨v, h1, h2, r1, h3, h4⟩ => ⟨v, h1, h2, r1, _, h3, fresh_d hk hgk h4, rfl⟩))) ?_
  refine .op (φ := IsT (IsD (Fr W4) (Au.d (ofAV (objV 1 ([ofBytes (List.replicate (lit 64) (97 : Int))]))))) (Is (.int .i64 (ofAE (objV 1 ([ofBytes (List.replicate (lit 64) (97 : Int))])))))) (st_t (st_d sub_all) (st_is _)) (sp_move (hlc rfl)) ?_
  refine .da (X := Fr W4) (e := Au.d (ofAV (objV 1 ([ofBytes (List.replicate (lit 64) (97 : Int))])))) (sp_ext2 (hlc rfl) rfl) ?_
  refine .i (v := (.int .i64 (ofAE (objV 1 ([ofBytes (List.replicate (lit 64) (97 : Int))]))))) (sp_ext2' (hlc rfl) rfl) ?_
  refine .alloc z27 ?_
  refine .done ⟨by kernel_rfl, fun a6 g W6 y6 zz6 hk hg hV hR hP => ?_⟩
  obtain ⟨⟨b2_6, e2, hb2, own_b2_6⟩, e19, e18, -, -, -, -, -, -⟩ := hV
  have lo_b2_6 : w.heap.size ≤ b2_6 := Nat.le_trans kw.size (hg.lo _ _ hb2)
  have own_b2_6 : Own W6 b2_6 [(.int .i64 (0)), (.slice none 0 0)] 27 := own_b2_6
  replace e1 := (hR 1 rfl).trans e1
  obtain ⟨v18_6, ev⟩ : ∃ v, sl a6 18 = v := ⟨_, rfl⟩
  rw [ev] at e18
  have D_v18_6 : Rd W6 (SF w [b2_6]) (Au.d (ofAV (objV 1 ([ofBytes (List.replicate (lit 64) (97 : Int))])))) v18_6 := fr_end (M := []) e18 kw [b2_6] (in_cons ⟨_, hb2⟩ in_nil) in_nil
  replace e18 := ev; clear ev
  obtain ⟨v18_6_1a, v18_6_1c, ev, D_v18_6_1⟩ := rdAu_out D_v18_6
  subst ev; clear D_v18_6
  replace e19 := e19.q
  replace kw := kw.x hk
  clear hR hk hg hP hb2
  refine tail_store (b := b2_6) (o := 0) (v := (.agg #[(.int .i64 ((ofAV (objV 1 ([ofBytes (List.replicate (lit 64) (97 : Int))]))).th)), (.slice v18_6_1a (((ofAV (objV 1 ([ofBytes (List.replicate (lit 64) (97 : Int))]))).ids).length) v18_6_1c)])) e2 e18 sz27 rfl own_b2_6 (lbr rfl) (all_cons rfl (all_cons rfl all_nil)) (fun W7 hs own_b2_6 => ?_)
  have own_b2_6 : Own W7 b2_6 [(.int .i64 ((ofAV (objV 1 ([ofBytes (List.replicate (lit 64) (97 : Int))]))).th)), (.slice v18_6_1a (((ofAV (objV 1 ([ofBytes (List.replicate (lit 64) (97 : Int))]))).ids).length) v18_6_1c)] 27 := own_b2_6
  replace D_v18_6_1 := sf_store D_v18_6_1 hs (by simp)
  replace kw := keeps_store kw hs lo_b2_6
  clear hs
  refine tail_assign (v := (.int .i64 (ofAE (objV 1 ([ofBytes (List.replicate (lit 64) (97 : Int))]))))) e19 (by rw [y6]; exact Nat.le_of_ble_eq_true rfl) (fun a8 y8 zz8 e3 hr => ?_)
  replace y8 := y8.trans y6; replace zz8 := zz8.trans zz6
  replace e1 := (hr 1 (by decide)).trans e1
  replace e2 := (hr 2 (by decide)).trans e2
  replace e18 := (hr 18 (by decide)).trans e18
  replace e19 := (hr 19 (by decide)).trans e19
  clear hr
  refine tail_nil (hK5 _ _ ?_)
  refine wp_seq_k fun K9 hK9 => ?_
  refine rg mixed y8 zz8 ?_
  refine .i (sp_move (hbs rfl e1)) ?_
  refine .da (X := SF w [b2_6]) (e := strsD ([ofBytes (List.replicate (lit 64) (97 : Int))])) (sp_bsl (ds := [D.str (ofBytes (List.replicate (lit 64) (97 : Int)))]) Try.underlying23 sz9 z9 (lbr rfl) (lbr rfl) ⟨rfl, ((hlc rfl).str (idb _)), trivial⟩ rfl (by simp [width]) (fr_sf kw (in_cons own_b2_6.lt in_nil))) ?_
  refine .da (X := Fr W7) (e := V.d (objV 2 ([ofBytes (List.replicate (lit 64) (97 : Int))]))) (sp_call2 (φ1 := Is (.int .i64 (2))) (φ2 := IsD (SF w [b2_6]) (strsD ([ofBytes (List.replicate (lit 64) (97 : Int))]))) ent17 Has.cst (hlc rfl) (fun g u1 u2 W hk hgk h1 h2 => by have h1 : u1 = _ := h1; subst u1; exact (object_ok (2) ([ofBytes (List.replicate (lit 64) (97 : Int))]) (by simp) W _ _ h2).mono (ret_fr hk hgk))) ?_
  refine .op (φ := IsT (IsD (Fr W7) (Au.d (ofAV (objV 2 ([ofBytes (List.replicate (lit 64) (97 : Int))]))))) (Is (.int .i64 (ofAE (objV 2 ([ofBytes (List.replicate (lit 64) (97 : Int))])))))) (st_t (st_d sub_all) (st_is _)) (sp_call1 (φ1 := IsD (Fr W7) (V.d (objV 2 ([ofBytes (List.replicate (lit 64) (97 : Int))])))) ent16 (hlc rfl) (fun g u1 W hk hgk h1 => (authOf_ok (objV 2 ([ofBytes (List.replicate (lit 64) (97 : Int))])) (Nat.le_of_ble_eq_true (by kernel_rfl)) W _ _ (fun b o h => h.1.2) h1).mono (fun _ _ ⟨v, h1, h2, r1, h3, h4⟩ => ⟨v, h1, h2, r1, _, h3, fresh_d hk hgk h4, rfl⟩))) ?_
  refine .op (φ := IsT (IsD (Fr W7) (Au.d (ofAV (objV 2 ([ofBytes (List.replicate (lit 64) (97 : Int))]))))) (Is (.int .i64 (ofAE (objV 2 ([ofBytes (List.replicate (lit 64) (97 : Int))])))))) (st_t (st_d sub_all) (st_is _)) (sp_move (hlc rfl)) ?_
  refine .da (X := Fr W7) (e := Au.d (ofAV (objV 2 ([ofBytes (List.replicate (lit 64) (97 : Int))])))) (sp_ext2 (hlc rfl) rfl) ?_
  refine .i (v := (.int .i64 (ofAE (objV 2 ([ofBytes (List.replicate (lit 64) (97 : Int))]))))) (sp_ext2' (hlc rfl) rfl) ?_
  refine .alloc z27 ?_
  refine .done ⟨by kernel_rfl, fun a10 g W10 y10 zz10 hk hg hV hR hP => ?_⟩
  obtain ⟨⟨b4_10, e4, hb4, own_b4_10⟩, e26, e25, -, -, -, -, -, -⟩ := hV
  have lo_b4_10 : w.heap.size ≤ b4_10 := Nat.le_trans kw.size (hg.lo _ _ hb4)
  have ne_b2_6_b4_10 : b2_6 ≠ b4_10 := Nat.ne_of_lt (Nat.lt_of_lt_of_le own_b2_6.lt (hg.lo _ _ hb4))
  have own_b4_10 : Own W10 b4_10 [(.int .i64 (0)), (.slice none 0 0)] 27 := own_b4_10
  replace e1 := (hR 1 rfl).trans e1
  replace e2 := (hR 2 rfl).trans e2
  replace e3 := (hR 3 rfl).trans e3
  replace D_v18_6_1 := sf_more D_v18_6_1 hk [b4_10] (in_cons (hg.lo _ _ hb4) in_nil)
  obtain ⟨v25_10, ev⟩ : ∃ v, sl a10 25 = v := ⟨_, rfl⟩
  rw [ev] at e25
  have D_v25_10 : Rd W10 (SF w [b4_10, b2_6]) (Au.d (ofAV (objV 2 ([ofBytes (List.replicate (lit 64) (97 : Int))])))) v25_10 := fr_end (M := [b2_6]) e25 kw [b4_10] (in_cons ⟨_, hb4⟩ in_nil) (in_cons own_b2_6.lt in_nil)
  replace e25 := ev; clear ev
  obtain ⟨v25_10_1a, v25_10_1c, ev, D_v25_10_1⟩ := rdAu_out D_v25_10
  subst ev; clear D_v25_10
  replace e26 := e26.q
  replace own_b2_6 := own_b2_6.ext hk
  replace kw := kw.x hk
  clear hR hk hg hP hb4
  refine tail_store (b := b4_10) (o := 0) (v := (.agg #[(.int .i64 ((ofAV (objV 2 ([ofBytes (List.replicate (lit 64) (97 : Int))]))).th)), (.slice v25_10_1a (((ofAV (objV 2 ([ofBytes (List.replicate (lit 64) (97 : Int))]))).ids).length) v25_10_1c)])) e4 e25 sz27 rfl own_b4_10 (lbr rfl) (all_cons rfl (all_cons rfl all_nil)) (fun W11 hs own_b4_10 => ?_)
  have own_b4_10 : Own W11 b4_10 [(.int .i64 ((ofAV (objV 2 ([ofBytes (List.replicate (lit 64) (97 : Int))]))).th)), (.slice v25_10_1a (((ofAV (objV 2 ([ofBytes (List.replicate (lit 64) (97 : Int))]))).ids).length) v25_10_1c)] 27 := own_b4_10
  replace own_b2_6 := own_store own_b2_6 hs ne_b2_6_b4_10
  replace D_v18_6_1 := sf_store D_v18_6_1 hs (by simp)
  replace D_v25_10_1 := sf_store D_v25_10_1 hs (by simp)
  replace kw := keeps_store kw hs lo_b4_10
  clear hs
  refine tail_assign (v := (.int .i64 (ofAE (objV 2 ([ofBytes (List.replicate (lit 64) (97 : Int))]))))) e26 (by rw [y10]; exact Nat.le_of_ble_eq_true rfl) (fun a12 y12 zz12 e5 hr => ?_)
  replace y12 := y12.trans y10; replace zz12 := zz12.trans zz10
  replace e1 := (hr 1 (by decide)).trans e1
  replace e2 := (hr 2 (by decide)).trans e2
  replace e3 := (hr 3 (by decide)).trans e3
  replace e4 := (hr 4 (by decide)).trans e4
  replace e25 := (hr 25 (by decide)).trans e25
  replace e26 := (hr 26 (by decide)).trans e26
  clear hr
  refine tail_nil (hK9 _ _ ?_)
  refine wp_seq_k fun K13 hK13 => ?_
  refine rg mixed y12 zz12 ?_
  refine .i (sp_move (hbs rfl e1)) ?_
  refine .i (sp_move (hbs rfl e1)) ?_
  refine .da (X := SF w [b4_10, b2_6]) (e := strsD ([ofBytes (List.replicate (lit 64) (97 : Int)), ofBytes (List.replicate (lit 64) (97 : Int))])) (sp_bsl (ds := [D.str (ofBytes (List.replicate (lit 64) (97 : Int))), D.str (ofBytes (List.replicate (lit 64) (97 : Int)))]) Try.underlying23 sz9 z9 (lbr rfl) (lbr rfl) ⟨rfl, ((hlc rfl).str (idb _)), ⟨rfl, ((hlc rfl).str (idb _)), trivial⟩⟩ rfl (by simp [width]) (fr_sf kw (in_cons own_b4_10.lt (in_cons own_b2_6.lt in_nil)))) ?_
  refine .da (X := Fr W11) (e := V.d (objV 1 ([ofBytes (List.replicate (lit 64) (97 : Int)), ofBytes (List.replicate (lit 64) (97 : Int))]))) (sp_call2 (φ1 := Is (.int .i64 (1))) (φ2 := IsD (SF w [b4_10, b2_6]) (strsD ([ofBytes (List.replicate (lit 64) (97 : Int)), ofBytes (List.replicate (lit 64) (97 : Int))]))) ent17 Has.cst (hlc rfl) (fun g u1 u2 W hk hgk h1 h2 => by have h1 : u1 = _ := h1; subst u1; exact (object_ok (1) ([ofBytes (List.replicate (lit 64) (97 : Int)), ofBytes (List.replicate (lit 64) (97 : Int))]) (by simp) W _ _ h2).mono (ret_fr hk hgk))) ?_
  refine .op (φ := IsT (IsD (Fr W11) (Au.d (ofAV (objV 1 ([ofBytes (List.replicate (lit 64) (97 : Int)), ofBytes (List.replicate (lit 64) (97 : Int))]))))) (Is (.int .i64 (ofAE (objV 1 ([ofBytes (List.replicate (lit 64) (97 : Int)), ofBytes (List.replicate (lit 64) (97 : Int))])))))) (st_t (st_d sub_all) (st_is _)) (sp_call1 (φ1 := IsD (Fr W11) (V.d (objV 1 ([ofBytes (List.replicate (lit 64) (97 : Int)), ofBytes (List.replicate (lit 64) (97 : Int))])))) ent16 (hlc rfl) (fun g u1 W hk hgk h1 => (authOf_ok (objV 1 ([ofBytes (List.replicate (lit 64) (97 : Int)), ofBytes (List.replicate (lit 64) (97 : Int))])) (Nat.le_of_ble_eq_true (by kernel_rfl)) W _ _ (fun b o h => h.1.2) h1).mono (fun _ _ ⟨v, h1, h2, r1, h3, h4⟩ => ⟨v, h1, h2, r1, _, h3, fresh_d hk hgk h4, rfl⟩))) ?_
  refine .op (φ := IsT (IsD (Fr W11) (Au.d (ofAV (objV 1 ([ofBytes (List.replicate (lit 64) (97 : Int)), ofBytes (List.replicate (lit 64) (97 : Int))]))))) (Is (.int .i64 (ofAE (objV 1 ([ofBytes (List.replicate (lit 64) (97 : Int)), ofBytes (List.replicate (lit 64) (97 : Int))])))))) (st_t (st_d sub_all) (st_is _)) (sp_move (hlc rfl)) ?_
  refine .da (X := Fr W11) (e := Au.d (ofAV (objV 1 ([ofBytes (List.replicate (lit 64) (97 : Int)), ofBytes (List.replicate (lit 64) (97 : Int))])))) (sp_ext2 (hlc rfl) rfl) ?_
  refine .i (v := (.int .i64 (ofAE (objV 1 ([ofBytes (List.replicate (lit 64) (97 : Int)), ofBytes (List.replicate (lit 64) (97 : Int))]))))) (sp_ext2' (hlc rfl) rfl) ?_
  refine .alloc z27 ?_
  refine .done ⟨by kernel_rfl, fun a14 g W14 y14 zz14 hk hg hV hR hP => ?_⟩
  obtain ⟨⟨b6_14, e6, hb6, own_b6_14⟩, e34, e33, -, -, -, -, -, -, -⟩ := hV
  have lo_b6_14 : w.heap.size ≤ b6_14 := Nat.le_trans kw.size (hg.lo _ _ hb6)
  have ne_b2_6_b6_14 : b2_6 ≠ b6_14 := Nat.ne_of_lt (Nat.lt_of_lt_of_le own_b2_6.lt (hg.lo _ _ hb6))
  have ne_b4_10_b6_14 : b4_10 ≠ b6_14 := Nat.ne_of_lt (Nat.lt_of_lt_of_le own_b4_10.lt (hg.lo _ _ hb6))
  have own_b6_14 : Own W14 b6_14 [(.int .i64 (0)), (.slice none 0 0)] 27 := own_b6_14
  replace e1 := (hR 1 rfl).trans e1
  replace e2 := (hR 2 rfl).trans e2
  replace e3 := (hR 3 rfl).trans e3
  replace e5 := (hR 5 rfl).trans e5
  replace D_v18_6_1 := sf_more D_v18_6_1 hk [b6_14] (in_cons (hg.lo _ _ hb6) in_nil)
  obtain ⟨v33_14, ev⟩ : ∃ v, sl a14 33 = v := ⟨_, rfl⟩
  rw [ev] at e33
  have D_v33_14 : Rd W14 (SF w [b6_14, b4_10, b2_6]) (Au.d (ofAV (objV 1 ([ofBytes (List.replicate (lit 64) (97 : Int)), ofBytes (List.replicate (lit 64) (97 : Int))])))) v33_14 := fr_end (M := [b4_10, b2_6]) e33 kw [b6_14] (in_cons ⟨_, hb6⟩ in_nil) (in_cons own_b4_10.lt (in_cons own_b2_6.lt in_nil))
  replace e33 := ev; clear ev
  obtain ⟨v33_14_1a, v33_14_1c, ev, D_v33_14_1⟩ := rdAu_out D_v33_14
  subst ev; clear D_v33_14
  replace e34 := e34.q
  replace own_b2_6 := own_b2_6.ext hk
  replace own_b4_10 := own_b4_10.ext hk
  replace kw := kw.x hk
  clear hR hk hg hP hb6
  refine tail_store (b := b6_14) (o := 0) (v := (.agg #[(.int .i64 ((ofAV (objV 1 ([ofBytes (List.replicate (lit 64) (97 : Int)), ofBytes (List.replicate (lit 64) (97 : Int))]))).th)), (.slice v33_14_1a (((ofAV (objV 1 ([ofBytes (List.replicate (lit 64) (97 : Int)), ofBytes (List.replicate (lit 64) (97 : Int))]))).ids).length) v33_14_1c)])) e6 e33 sz27 rfl own_b6_14 (lbr rfl) (all_cons rfl (all_cons rfl all_nil)) (fun W15 hs own_b6_14 => ?_)
  have own_b6_14 : Own W15 b6_14 [(.int .i64 ((ofAV (objV 1 ([ofBytes (List.replicate (lit 64) (97 : Int)), ofBytes (List.replicate (lit 64) (97 : Int))]))).th)), (.slice v33_14_1a (((ofAV (objV 1 ([ofBytes (List.replicate (lit 64) (97 : Int)), ofBytes (List.replicate (lit 64) (97 : Int))]))).ids).length) v33_14_1c)] 27 := own_b6_14
  replace own_b2_6 := own_store own_b2_6 hs ne_b2_6_b6_14
  replace own_b4_10 := own_store own_b4_10 hs ne_b4_10_b6_14
  replace D_v18_6_1 := sf_store D_v18_6_1 hs (by simp)
  replace D_v33_14_1 := sf_store D_v33_14_1 hs (by simp)
  replace kw := keeps_store kw hs lo_b6_14
  clear hs
  refine tail_assign (v := (.int .i64 (ofAE (objV 1 ([ofBytes (List.replicate (lit 64) (97 : Int)), ofBytes (List.replicate (lit 64) (97 : Int))]))))) e34 (by rw [y14]; exact Nat.le_of_ble_eq_true rfl) (fun a16 y16 zz16 e7 hr => ?_)
  replace y16 := y16.trans y14; replace zz16 := zz16.trans zz14
  replace e1 := (hr 1 (by decide)).trans e1
  replace e2 := (hr 2 (by decide)).trans e2
  replace e3 := (hr 3 (by decide)).trans e3
  replace e5 := (hr 5 (by decide)).trans e5
  replace e6 := (hr 6 (by decide)).trans e6
  replace e33 := (hr 33 (by decide)).trans e33
  replace e34 := (hr 34 (by decide)).trans e34
  clear hr
  refine tail_nil (hK13 _ _ ?_)
  refine wp_seq_k fun K17 hK17 => ?_
  refine rg mixed y16 zz16 ?_
  refine .da (X := Fr W15) (e := V.d (objV 1 ([]))) (sp_call2 (φ1 := Is (.int .i64 (1))) (φ2 := IsD (SF w [b6_14, b4_10, b2_6]) (strsD ([]))) ent17 Has.cst (Has.cst.dat (rd_nil _ : Rd W15 (SF w [b6_14, b4_10, b2_6]) (strsD ([])) _) sub_all) (fun g u1 u2 W hk hgk h1 h2 => by have h1 : u1 = _ := h1; subst u1; exact (object_ok (1) ([]) (by simp) W _ _ h2).mono (ret_fr hk hgk))) ?_
  refine .op (φ := IsT (IsD (Fr W15) (Au.d (ofAV (objV 1 ([]))))) (Is (.int .i64 (ofAE (objV 1 ([])))))) (st_t (st_d sub_all) (st_is _)) (sp_call1 (φ1 := IsD (Fr W15) (V.d (objV 1 ([])))) ent16 (hlc rfl) (fun g u1 W hk hgk h1 => (authOf_ok (objV 1 ([])) (Nat.le_of_ble_eq_true (by kernel_rfl)) W _ _ (fun b o h => h.1.2) h1).mono (fun _ _ ⟨v, h1, h2, r1, h3, h4⟩ => ⟨v, h1, h2, r1, _, h3, fresh_d hk hgk h4, rfl⟩))) ?_
  refine .op (φ := IsT (IsD (Fr W15) (Au.d (ofAV (objV 1 ([]))))) (Is (.int .i64 (ofAE (objV 1 ([])))))) (st_t (st_d sub_all) (st_is _)) (sp_move (hlc rfl)) ?_
  refine .da (X := Fr W15) (e := Au.d (ofAV (objV 1 ([])))) (sp_ext2 (hlc rfl) rfl) ?_
  refine .i (v := (.int .i64 (ofAE (objV 1 ([]))))) (sp_ext2' (hlc rfl) rfl) ?_
  refine .alloc z27 ?_
  refine .done ⟨by kernel_rfl, fun a18 g W18 y18 zz18 hk hg hV hR hP => ?_⟩
  obtain ⟨⟨b8_18, e8, hb8, own_b8_18⟩, e39, e38, -, -, -, -⟩ := hV
  have lo_b8_18 : w.heap.size ≤ b8_18 := Nat.le_trans kw.size (hg.lo _ _ hb8)
  have ne_b2_6_b8_18 : b2_6 ≠ b8_18 := Nat.ne_of_lt (Nat.lt_of_lt_of_le own_b2_6.lt (hg.lo _ _ hb8))
  have ne_b4_10_b8_18 : b4_10 ≠ b8_18 := Nat.ne_of_lt (Nat.lt_of_lt_of_le own_b4_10.lt (hg.lo _ _ hb8))
  have ne_b6_14_b8_18 : b6_14 ≠ b8_18 := Nat.ne_of_lt (Nat.lt_of_lt_of_le own_b6_14.lt (hg.lo _ _ hb8))
  have own_b8_18 : Own W18 b8_18 [(.int .i64 (0)), (.slice none 0 0)] 27 := own_b8_18
  replace e1 := (hR 1 rfl).trans e1
  replace e2 := (hR 2 rfl).trans e2
  replace e3 := (hR 3 rfl).trans e3
  replace e5 := (hR 5 rfl).trans e5
  replace e7 := (hR 7 rfl).trans e7
  replace D_v18_6_1 := sf_more D_v18_6_1 hk [b8_18] (in_cons (hg.lo _ _ hb8) in_nil)
  obtain ⟨v38_18, ev⟩ : ∃ v, sl a18 38 = v := ⟨_, rfl⟩
  rw [ev] at e38
  have D_v38_18 : Rd W18 (SF w [b8_18, b6_14, b4_10, b2_6]) (Au.d (ofAV (objV 1 ([])))) v38_18 := fr_end (M := [b6_14, b4_10, b2_6]) e38 kw [b8_18] (in_cons ⟨_, hb8⟩ in_nil) (in_cons own_b6_14.lt (in_cons own_b4_10.lt (in_cons own_b2_6.lt in_nil)))
  replace e38 := ev; clear ev
  obtain ⟨v38_18_1a, v38_18_1c, ev, D_v38_18_1⟩ := rdAu_out D_v38_18
  subst ev; clear D_v38_18
  have e39 : sl a18 39 = (.int .i64 (ofAE (objV 1 ([])))) := e39
  replace own_b2_6 := own_b2_6.ext hk
  replace own_b4_10 := own_b4_10.ext hk
  replace own_b6_14 := own_b6_14.ext hk
  replace kw := kw.x hk
  clear hR hk hg hP hb8
  refine tail_store (b := b8_18) (o := 0) (v := (.agg #[(.int .i64 ((ofAV (objV 1 ([]))).th)), (.slice v38_18_1a (((ofAV (objV 1 ([]))).ids).length) v38_18_1c)])) e8 e38 sz27 rfl own_b8_18 (lbr rfl) (all_cons rfl (all_cons rfl all_nil)) (fun W19 hs own_b8_18 => ?_)
  have own_b8_18 : Own W19 b8_18 [(.int .i64 ((ofAV (objV 1 ([]))).th)), (.slice v38_18_1a (((ofAV (objV 1 ([]))).ids).length) v38_18_1c)] 27 := own_b8_18
  replace own_b2_6 := own_store own_b2_6 hs ne_b2_6_b8_18
  replace own_b4_10 := own_store own_b4_10 hs ne_b4_10_b8_18
  replace own_b6_14 := own_store own_b6_14 hs ne_b6_14_b8_18
  replace D_v18_6_1 := sf_store D_v18_6_1 hs (by simp)
  replace D_v38_18_1 := sf_store D_v38_18_1 hs (by simp)
  replace kw := keeps_store kw hs lo_b8_18
  clear hs
  refine tail_assign (v := (.int .i64 (ofAE (objV 1 ([]))))) e39 (by rw [y18]; exact Nat.le_of_ble_eq_true rfl) (fun a20 y20 zz20 e9 hr => ?_)
  replace y20 := y20.trans y18; replace zz20 := zz20.trans zz18
  replace e1 := (hr 1 (by decide)).trans e1
  replace e2 := (hr 2 (by decide)).trans e2
  replace e3 := (hr 3 (by decide)).trans e3
  replace e5 := (hr 5 (by decide)).trans e5
  replace e7 := (hr 7 (by decide)).trans e7
  replace e8 := (hr 8 (by decide)).trans e8
  replace e38 := (hr 38 (by decide)).trans e38
  replace e39 := (hr 39 (by decide)).trans e39
  clear hr
  refine tail_nil (hK17 _ _ ?_)
  refine wp_seq_k fun K21 hK21 => ?_
  refine rg mixed y20 zz20 ?_
  refine .i (sp_move (hbs rfl e1)) ?_
  refine .i (v := (.string ((ofBytes (List.replicate (lit 64) (97 : Int))).extract 0 63))) (sp_sliceHi (i := 63) Try.underlying9 (hlc rfl) Has.cst rfl (Nat.le_of_ble_eq_true (by kernel_rfl))) ?_
  refine .i (v := (.string (((ofBytes (List.replicate (lit 64) (97 : Int))).extract 0 63) ++ (⟨#[65]⟩ : ByteArray)))) (sp_sAdd (hlc rfl) Has.cst (Nat.le_of_ble_eq_true (by kernel_rfl))) ?_
  refine .da (X := SF w [b8_18, b6_14, b4_10, b2_6]) (e := strsD ([((ofBytes (List.replicate (lit 64) (97 : Int))).extract 0 63) ++ (⟨#[65]⟩ : ByteArray)])) (sp_bsl (ds := [D.str (((ofBytes (List.replicate (lit 64) (97 : Int))).extract 0 63) ++ (⟨#[65]⟩ : ByteArray))]) Try.underlying23 sz9 z9 (lbr rfl) (lbr rfl) ⟨rfl, ((hlc rfl).str (Nat.le_of_ble_eq_true (by kernel_rfl))), trivial⟩ rfl (by simp [width]) (fr_sf kw (in_cons own_b8_18.lt (in_cons own_b6_14.lt (in_cons own_b4_10.lt (in_cons own_b2_6.lt in_nil)))))) ?_
  refine .da (X := Fr W19) (e := V.d (objV 1 ([((ofBytes (List.replicate (lit 64) (97 : Int))).extract 0 63) ++ (⟨#[65]⟩ : ByteArray)]))) (sp_call2 (φ1 := Is (.int .i64 (1))) (φ2 := IsD (SF w [b8_18, b6_14, b4_10, b2_6]) (strsD ([((ofBytes (List.replicate (lit 64) (97 : Int))).extract 0 63) ++ (⟨#[65]⟩ : ByteArray)]))) ent17 Has.cst (hlc rfl) (fun g u1 u2 W hk hgk h1 h2 => by have h1 : u1 = _ := h1; subst u1; exact (object_ok (1) ([((ofBytes (List.replicate (lit 64) (97 : Int))).extract 0 63) ++ (⟨#[65]⟩ : ByteArray)]) (by simp) W _ _ h2).mono (ret_fr hk hgk))) ?_
  refine .op (φ := IsT (IsD (Fr W19) (Au.d (ofAV (objV 1 ([((ofBytes (List.replicate (lit 64) (97 : Int))).extract 0 63) ++ (⟨#[65]⟩ : ByteArray)]))))) (Is (.int .i64 (ofAE (objV 1 ([((ofBytes (List.replicate (lit 64) (97 : Int))).extract 0 63) ++ (⟨#[65]⟩ : ByteArray)])))))) (st_t (st_d sub_all) (st_is _)) (sp_call1 (φ1 := IsD (Fr W19) (V.d (objV 1 ([((ofBytes (List.replicate (lit 64) (97 : Int))).extract 0 63) ++ (⟨#[65]⟩ : ByteArray)])))) ent16 (hlc rfl) (fun g u1 W hk hgk h1 => (authOf_ok (objV 1 ([((ofBytes (List.replicate (lit 64) (97 : Int))).extract 0 63) ++ (⟨#[65]⟩ : ByteArray)])) (Nat.le_of_ble_eq_true (by kernel_rfl)) W _ _ (fun b o h => h.1.2) h1).mono (fun _ _ ⟨v, h1, h2, r1, h3, h4⟩ => ⟨v, h1, h2, r1, _, h3, fresh_d hk hgk h4, rfl⟩))) ?_
  refine .op (φ := IsT (IsD (Fr W19) (Au.d (ofAV (objV 1 ([((ofBytes (List.replicate (lit 64) (97 : Int))).extract 0 63) ++ (⟨#[65]⟩ : ByteArray)]))))) (Is (.int .i64 (ofAE (objV 1 ([((ofBytes (List.replicate (lit 64) (97 : Int))).extract 0 63) ++ (⟨#[65]⟩ : ByteArray)])))))) (st_t (st_d sub_all) (st_is _)) (sp_move (hlc rfl)) ?_
  refine .da (X := Fr W19) (e := Au.d (ofAV (objV 1 ([((ofBytes (List.replicate (lit 64) (97 : Int))).extract 0 63) ++ (⟨#[65]⟩ : ByteArray)])))) (sp_ext2 (hlc rfl) rfl) ?_
  refine .i (v := (.int .i64 (ofAE (objV 1 ([((ofBytes (List.replicate (lit 64) (97 : Int))).extract 0 63) ++ (⟨#[65]⟩ : ByteArray)]))))) (sp_ext2' (hlc rfl) rfl) ?_
  refine .alloc z27 ?_
  refine .done ⟨by kernel_rfl, fun a22 g W22 y22 zz22 hk hg hV hR hP => ?_⟩
  obtain ⟨⟨b10_22, e10, hb10, own_b10_22⟩, e48, e47, -, -, -, -, -, -, -, -⟩ := hV
  have lo_b10_22 : w.heap.size ≤ b10_22 := Nat.le_trans kw.size (hg.lo _ _ hb10)
  have ne_b2_6_b10_22 : b2_6 ≠ b10_22 := Nat.ne_of_lt (Nat.lt_of_lt_of_le own_b2_6.lt (hg.lo _ _ hb10))
  have ne_b4_10_b10_22 : b4_10 ≠ b10_22 := Nat.ne_of_lt (Nat.lt_of_lt_of_le own_b4_10.lt (hg.lo _ _ hb10))
  have ne_b6_14_b10_22 : b6_14 ≠ b10_22 := Nat.ne_of_lt (Nat.lt_of_lt_of_le own_b6_14.lt (hg.lo _ _ hb10))
  have ne_b8_18_b10_22 : b8_18 ≠ b10_22 := Nat.ne_of_lt (Nat.lt_of_lt_of_le own_b8_18.lt (hg.lo _ _ hb10))
  have own_b10_22 : Own W22 b10_22 [(.int .i64 (0)), (.slice none 0 0)] 27 := own_b10_22
  replace e1 := (hR 1 rfl).trans e1
  replace e2 := (hR 2 rfl).trans e2
  replace e3 := (hR 3 rfl).trans e3
  replace e5 := (hR 5 rfl).trans e5
  replace e7 := (hR 7 rfl).trans e7
  replace e9 := (hR 9 rfl).trans e9
  replace D_v18_6_1 := sf_more D_v18_6_1 hk [b10_22] (in_cons (hg.lo _ _ hb10) in_nil)
  obtain ⟨v47_22, ev⟩ : ∃ v, sl a22 47 = v := ⟨_, rfl⟩
  rw [ev] at e47
  have D_v47_22 : Rd W22 (SF w [b10_22, b8_18, b6_14, b4_10, b2_6]) (Au.d (ofAV (objV 1 ([((ofBytes (List.replicate (lit 64) (97 : Int))).extract 0 63) ++ (⟨#[65]⟩ : ByteArray)])))) v47_22 := fr_end (M := [b8_18, b6_14, b4_10, b2_6]) e47 kw [b10_22] (in_cons ⟨_, hb10⟩ in_nil) (in_cons own_b8_18.lt (in_cons own_b6_14.lt (in_cons own_b4_10.lt (in_cons own_b2_6.lt in_nil))))
  replace e47 := ev; clear ev
  obtain ⟨v47_22_1a, v47_22_1c, ev, D_v47_22_1⟩ := rdAu_out D_v47_22
  subst ev; clear D_v47_22
  replace e48 := e48.q
  replace own_b2_6 := own_b2_6.ext hk
  replace own_b4_10 := own_b4_10.ext hk
  replace own_b6_14 := own_b6_14.ext hk
  replace own_b8_18 := own_b8_18.ext hk
  replace kw := kw.x hk
  clear hR hk hg hP hb10
  refine tail_store (b := b10_22) (o := 0) (v := (.agg #[(.int .i64 ((ofAV (objV 1 ([((ofBytes (List.replicate (lit 64) (97 : Int))).extract 0 63) ++ (⟨#[65]⟩ : ByteArray)]))).th)), (.slice v47_22_1a (((ofAV (objV 1 ([((ofBytes (List.replicate (lit 64) (97 : Int))).extract 0 63) ++ (⟨#[65]⟩ : ByteArray)]))).ids).length) v47_22_1c)])) e10 e47 sz27 rfl own_b10_22 (lbr rfl) (all_cons rfl (all_cons rfl all_nil)) (fun W23 hs own_b10_22 => ?_)
  have own_b10_22 : Own W23 b10_22 [(.int .i64 ((ofAV (objV 1 ([((ofBytes (List.replicate (lit 64) (97 : Int))).extract 0 63) ++ (⟨#[65]⟩ : ByteArray)]))).th)), (.slice v47_22_1a (((ofAV (objV 1 ([((ofBytes (List.replicate (lit 64) (97 : Int))).extract 0 63) ++ (⟨#[65]⟩ : ByteArray)]))).ids).length) v47_22_1c)] 27 := own_b10_22
  replace own_b2_6 := own_store own_b2_6 hs ne_b2_6_b10_22
  replace own_b4_10 := own_store own_b4_10 hs ne_b4_10_b10_22
  replace own_b6_14 := own_store own_b6_14 hs ne_b6_14_b10_22
  replace own_b8_18 := own_store own_b8_18 hs ne_b8_18_b10_22
  replace D_v18_6_1 := sf_store D_v18_6_1 hs (by simp)
  replace D_v47_22_1 := sf_store D_v47_22_1 hs (by simp)
  replace kw := keeps_store kw hs lo_b10_22
  clear hs
  refine tail_assign (v := (.int .i64 (ofAE (objV 1 ([((ofBytes (List.replicate (lit 64) (97 : Int))).extract 0 63) ++ (⟨#[65]⟩ : ByteArray)]))))) e48 (by rw [y22]; exact Nat.le_of_ble_eq_true rfl) (fun a24 y24 zz24 e11 hr => ?_)
  replace y24 := y24.trans y22; replace zz24 := zz24.trans zz22
  replace e1 := (hr 1 (by decide)).trans e1
  replace e2 := (hr 2 (by decide)).trans e2
  replace e3 := (hr 3 (by decide)).trans e3
  replace e5 := (hr 5 (by decide)).trans e5
  replace e7 := (hr 7 (by decide)).trans e7
  replace e9 := (hr 9 (by decide)).trans e9
  replace e10 := (hr 10 (by decide)).trans e10
  replace e47 := (hr 47 (by decide)).trans e47
  replace e48 := (hr 48 (by decide)).trans e48
  clear hr
  refine tail_nil (hK21 _ _ ?_)
  refine wp_seq_k fun K25 hK25 => ?_
  refine rg mixed y24 zz24 ?_
  refine .i (sp_move (hbs rfl e3)) ?_
  refine .i (sp_eql (hlc rfl) Has.cst) ?_
  refine .i (sp_move (hlc rfl)) ?_
  refine .e (t := 51) (v := (.agg #[(.int .i64 ((ofAV (objV 1 ([ofBytes (List.replicate (lit 64) (97 : Int))]))).th)), (.slice v18_6_1a (((ofAV (objV 1 ([ofBytes (List.replicate (lit 64) (97 : Int))]))).ids).length) v18_6_1c)])) rfl (hlc rfl) (fun hg => loA (hbs rfl e2) own_b2_6 trivial agg27 sz27 rfl rfl) ?_
  refine .e (t := 51) rfl (hlc rfl) (fun hg => sp_move (hbs rfl e1)) ?_
  refine .opE (t := 51) (φ := IsD (SF w [b10_22, b8_18, b6_14, b4_10, b2_6]) (strsD ([ofBytes (List.replicate (lit 64) (97 : Int))]))) rfl (hlc rfl) (st_d sub_all) (fun hg => sp_bsl (ds := [D.str (ofBytes (List.replicate (lit 64) (97 : Int)))]) Try.underlying23 sz9 z9 (lbr rfl) (lbr rfl) ⟨rfl, (((hlc rfl).undE hg).str (idb _)), trivial⟩ rfl (by simp [width]) (fr_sf kw (in_cons own_b10_22.lt (in_cons own_b8_18.lt (in_cons own_b6_14.lt (in_cons own_b4_10.lt (in_cons own_b2_6.lt in_nil))))))) ?_
  refine .opE (t := 51) (φ := IsD (SF w [b10_22, b8_18, b6_14, b4_10, b2_6]) (Au.d (Au.mk (1) ([ofBytes (List.replicate (lit 64) (97 : Int))])))) rfl (hlc rfl) (st_d sub_all) (fun hg => sp_buildD (zd := [D.int .i64 0, strsD []]) (es := [(0, D.int .i64 (1)), (1, strsD ([ofBytes (List.replicate (lit 64) (97 : Int))]))]) Try.underlying27 z27 (pl27 Try.underlying27) ⟨rfl, Has.cst.int, ⟨rfl, ((hlc rfl).undE hg), trivial⟩⟩ zAu (by first | rfl | simp [plOf, width, width_V, hssD]) (by simp [fits, width, strsD, valsD, hssD, width_V]) rfl) ?_
  refine .e (t := 51) (v := (.bool (sameA (ofAV (objV 1 ([ofBytes (List.replicate (lit 64) (97 : Int))]))) (Au.mk (1) ([ofBytes (List.replicate (lit 64) (97 : Int))]))))) rfl (hlc rfl) (fun hg => sp_call2 (φ1 := IsD (SF w [b10_22, b8_18, b6_14, b4_10, b2_6]) (Au.d ((ofAV (objV 1 ([ofBytes (List.replicate (lit 64) (97 : Int))])))))) (φ2 := IsD (SF w [b10_22, b8_18, b6_14, b4_10, b2_6]) (Au.d (Au.mk (1) ([ofBytes (List.replicate (lit 64) (97 : Int))])))) ent20 (((hlc rfl).undE hg).dat (rdAu_mk D_v18_6_1 : Rd W23 (SF w [b10_22, b8_18, b6_14, b4_10, b2_6]) (Au.d ((ofAV (objV 1 ([ofBytes (List.replicate (lit 64) (97 : Int))]))))) _) sub_all) ((hlc rfl).undE hg) (fun g u1 u2 W hk hgk h1 h2 => refSameA_ok ((ofAV (objV 1 ([ofBytes (List.replicate (lit 64) (97 : Int))])))) (Au.mk (1) ([ofBytes (List.replicate (lit 64) (97 : Int))])) W _ _ _ h1 h2)) ?_
  refine .i (sp_and (hlc rfl) ((hlc rfl).weak fun hq => hq)) ?_
  refine .i (sp_move (hlc rfl)) ?_
  refine .e (t := 58) (v := (.agg #[(.int .i64 ((ofAV (objV 1 ([ofBytes (List.replicate (lit 64) (97 : Int))]))).th)), (.slice v18_6_1a (((ofAV (objV 1 ([ofBytes (List.replicate (lit 64) (97 : Int))]))).ids).length) v18_6_1c)])) rfl (hlc rfl) (fun hg => loA (hbs rfl e2) own_b2_6 trivial agg27 sz27 rfl rfl) ?_
  refine .e (t := 58) (v := (.bool (mayA (ofAV (objV 1 ([ofBytes (List.replicate (lit 64) (97 : Int))])))))) rfl (hlc rfl) (fun hg => sp_call1 (φ1 := IsD (SF w [b10_22, b8_18, b6_14, b4_10, b2_6]) (Au.d ((ofAV (objV 1 ([ofBytes (List.replicate (lit 64) (97 : Int))])))))) ent18 (((hlc rfl).undE hg).dat (rdAu_mk D_v18_6_1 : Rd W23 (SF w [b10_22, b8_18, b6_14, b4_10, b2_6]) (Au.d ((ofAV (objV 1 ([ofBytes (List.replicate (lit 64) (97 : Int))]))))) _) sub_all) (fun g u1 W hk hgk h1 => mayA_ok ((ofAV (objV 1 ([ofBytes (List.replicate (lit 64) (97 : Int))])))) W _ _ h1)) ?_
  refine .i (sp_and (hlc rfl) ((hlc rfl).weak fun hq => hq)) ?_
  refine .i (sp_move (hlc rfl)) ?_
  refine .e (t := 62) (v := (.agg #[(.int .i64 ((ofAV (objV 1 ([ofBytes (List.replicate (lit 64) (97 : Int))]))).th)), (.slice v18_6_1a (((ofAV (objV 1 ([ofBytes (List.replicate (lit 64) (97 : Int))]))).ids).length) v18_6_1c)])) rfl (hlc rfl) (fun hg => loA (hbs rfl e2) own_b2_6 trivial agg27 sz27 rfl rfl) ?_
  refine .e (t := 62) rfl (hlc rfl) (fun hg => sp_move (hbs rfl e1)) ?_
  refine .e (t := 62) (v := (.bool (hasA (ofAV (objV 1 ([ofBytes (List.replicate (lit 64) (97 : Int))]))) (ofBytes (List.replicate (lit 64) (97 : Int)))))) rfl (hlc rfl) (fun hg => sp_call2 (φ1 := IsD (SF w [b10_22, b8_18, b6_14, b4_10, b2_6]) (Au.d ((ofAV (objV 1 ([ofBytes (List.replicate (lit 64) (97 : Int))])))))) (φ2 := Is (.string (ofBytes (List.replicate (lit 64) (97 : Int))))) ent25 (((hlc rfl).undE hg).dat (rdAu_mk D_v18_6_1 : Rd W23 (SF w [b10_22, b8_18, b6_14, b4_10, b2_6]) (Au.d ((ofAV (objV 1 ([ofBytes (List.replicate (lit 64) (97 : Int))]))))) _) sub_all) ((hlc rfl).undE hg) (fun g u1 u2 W hk hgk h1 h2 => by have h2 : u2 = _ := h2; subst u2; exact hasA_ok ((ofAV (objV 1 ([ofBytes (List.replicate (lit 64) (97 : Int))])))) (ofBytes (List.replicate (lit 64) (97 : Int))) W _ _ h1)) ?_
  refine .i (sp_and (hlc rfl) ((hlc rfl).weak fun hq => hq)) ?_
  refine .i (sp_move (hlc rfl)) ?_
  refine .e (t := 67) rfl (hlc rfl) (fun hg => sp_move (hbs rfl e5)) ?_
  refine .e (t := 67) rfl (hlc rfl) (fun hg => sp_eql ((hlc rfl).undE hg) Has.cst) ?_
  refine .i (sp_and (hlc rfl) ((hlc rfl).weak fun hq => hq)) ?_
  refine .i (sp_move (hlc rfl)) ?_
  refine .e (t := 71) rfl (hlc rfl) (fun hg => sp_move (hbs rfl e7)) ?_
  refine .e (t := 71) rfl (hlc rfl) (fun hg => sp_eql ((hlc rfl).undE hg) Has.cst) ?_
  refine .i (sp_and (hlc rfl) ((hlc rfl).weak fun hq => hq)) ?_
  refine .i (sp_move (hlc rfl)) ?_
  refine .e (t := 75) rfl (hlc rfl) (fun hg => sp_move (hbs rfl e9)) ?_
  refine .e (t := 75) rfl (hlc rfl) (fun hg => sp_eql ((hlc rfl).undE hg) Has.cst) ?_
  refine .i (sp_and (hlc rfl) ((hlc rfl).weak fun hq => hq)) ?_
  refine .i (sp_move (hlc rfl)) ?_
  refine .e (t := 79) rfl (hlc rfl) (fun hg => sp_move (hbs rfl e11)) ?_
  refine .e (t := 79) rfl (hlc rfl) (fun hg => sp_eql ((hlc rfl).undE hg) Has.cst) ?_
  refine .i (sp_and (hlc rfl) ((hlc rfl).weak fun hq => hq)) ?_
  refine .i (sp_assign (hlc rfl)) ?_
  refine .done ⟨by kernel_rfl, fun a26 g W26 y26 zz26 hk hg hV hR hP => ?_⟩
  obtain ⟨e0, -, -, -, -, -, -, -, -, -, -, -, -, -, -, -, -, -, -, -, -, -, -, -, -, -, -, -, -, -, -, -, -, -, -, -⟩ := hV
  replace D_v18_6_1 := D_v18_6_1.ext hk
  replace e0 := e0.q
  replace own_b2_6 := own_b2_6.ext hk
  replace own_b4_10 := own_b4_10.ext hk
  replace own_b6_14 := own_b6_14.ext hk
  replace own_b8_18 := own_b8_18.ext hk
  replace own_b10_22 := own_b10_22.ext hk
  replace kw := kw.x hk
  clear hR hk hg hP
  refine tail_nil (hK25 _ _ ?_)
  refine wp_ret ?_
  refine (show bodyPost Try.prog Try.f14 _ .ret _ _ from ret1 rfl zz26 e0 ⟨_, rfl, kw, ?_⟩)
  exact congrArg Value.bool (by kernel_rfl)
end Go.Proofs.Ytnobijngkpflcaa
namespace Go.Eng
instance : Inhabited Mb := ⟨⟨⟨#[]⟩, V.zero⟩⟩
def cfM (a b : Mb) : Int := Lib.compareBytes a.nm.data.toList b.nm.data.toList
def ltM (a b : Mb) : Bool := decide (cfM a b < 0)
def outerF {α : Type} [Inhabited α] (lt : α → α → Bool) : Nat → Nat → Array α → Array α
  | 0, _, d => d
  | f + 1, i, d => outerF lt f (i + 1) (Sort.insInner lt 0 i d)
def sortMb (L : List Mb) : List Mb := (outerF ltM (L.length - 1) 1 L.toArray).toList
theorem insOuter_eq {α : Type} [Inhabited α] (lt : α → α → Bool) (b : Nat) : ∀ (f i : Nat) (d : Array α), b - i = f → Sort.insOuter lt 0 b i d = outerF lt f i d
  | 0, i, d, h => by rw [Sort.insOuter, if_neg (by omega)]; rfl
  | f + 1, i, d, h => by rw [Sort.insOuter, if_pos (by omega), insOuter_eq lt b f (i + 1) _ (by omega)]; rfl
theorem get!_map {α β : Type} [Inhabited α] [Inhabited β] (g : α → β) (hg : g default = default) (d : Array α) (j : Nat) : (d.map g)[j]! = g d[j]! := by
  by_cases h : j < d.size
  · rw [getElem!_pos _ j (by simpa using h), getElem!_pos d j h]; simp
  · rw [getElem!_neg _ j (by simpa using h), getElem!_neg d j h, hg]
theorem insInner_map {α β : Type} [Inhabited α] [Inhabited β] {lt : α → α → Bool} {lt' : β → β → Bool} (g : α → β) (hg : g default = default) (hl : ∀ x y, lt' (g x) (g y) = lt x y) : ∀ (j : Nat) (d : Array α), (Sort.insInner lt 0 j d).map g = Sort.insInner lt' 0 j (d.map g)
  | 0, d => rfl
  | j + 1, d => by
    rw [Sort.insInner, Sort.insInner, get!_map g hg, get!_map g hg, hl]
    split
    · rw [insInner_map g hg hl j]
      congr 1
      unfold Sort.swp
      rw [get!_map g hg, get!_map g hg]
      simp
    · rfl
theorem outerF_map {α β : Type} [Inhabited α] [Inhabited β] {lt : α → α → Bool} {lt' : β → β → Bool} (g : α → β) (hg : g default = default) (hl : ∀ x y, lt' (g x) (g y) = lt x y) : ∀ (f i : Nat) (d : Array α), (outerF lt f i d).map g = outerF lt' f i (d.map g)
  | 0, _, d => rfl
  | f + 1, i, d => by rw [outerF, outerF, outerF_map g hg hl f, insInner_map g hg hl]
theorem insInner_size {α : Type} [Inhabited α] (lt : α → α → Bool) : ∀ (j : Nat) (d : Array α), (Sort.insInner lt 0 j d).size = d.size
  | 0, d => rfl
  | j + 1, d => by
    rw [Sort.insInner]
    split
    · rw [insInner_size lt j]; simp [Sort.swp]
    · rfl
theorem outerF_size {α : Type} [Inhabited α] (lt : α → α → Bool) : ∀ (f i : Nat) (d : Array α), (outerF lt f i d).size = d.size
  | 0, _, d => rfl
  | f + 1, i, d => by rw [outerF, outerF_size lt f, insInner_size]
theorem sortMb_len (L : List Mb) : (sortMb L).length = L.length := by unfold sortMb; rw [Array.length_toList, outerF_size]; simp
structure MbC (w : World) (X : BSet) where
  enc : List Value
  mb : Mb
  ok : RdC w X mb.d enc
instance (w : World) (X : BSet) : Inhabited (MbC w X) := ⟨⟨[.string ⟨#[]⟩, .int .u8 0, .int .i64 0, .string ⟨#[]⟩, .slice none 0 0, .slice none 0 0], ⟨⟨#[]⟩, V.zero⟩, by simp only [Mb.d, RdC]; exact zMb w X⟩⟩
theorem MbC.len {w : World} {X : BSet} (p : MbC w X) : p.enc.length = 6 := (rdc_width _ _ p.ok).trans (width_Mb _)
theorem MbC.mbd {w : World} {X : BSet} : (default : MbC w X).mb = default := rfl
theorem row_split {w : World} {X : BSet} : ∀ (L : List Mb) (cs : List Value), RowIs w X 6 (L.map Mb.d) cs → ∃ l : List (MbC w X), l.map MbC.mb = L ∧ cs = (l.map MbC.enc).flatten
  | [], cs, h => ⟨[], rfl, by simp only [List.map_nil, RowIs] at h; rw [h]; rfl⟩
  | m :: L, cs, h => by
    simp only [List.map_cons, RowIs] at h
    obtain ⟨c, r, rfl, h1, h2, h3⟩ := h
    obtain ⟨l, e1, e2⟩ := row_split L r h3
    exact ⟨⟨c, m, h2⟩ :: l, by rw [List.map_cons, e1], by rw [e2]; rfl⟩
theorem row_join {w W : World} {X : BSet} (hs : w.heap.size ≤ W.heap.size) (hk : ∀ b, X b w.heap[b]? → b < w.heap.size → W.heap[b]? = w.heap[b]?) : ∀ (l : List (MbC w X)), RowIs W X 6 ((l.map MbC.mb).map Mb.d) (l.map MbC.enc).flatten
  | [] => rfl
  | p :: l => ⟨p.enc, _, rfl, p.len, rdc_move hs (fun b hb hlt => ⟨hk b hb hlt, by rw [hk b hb hlt]; exact hb⟩) _ _ p.ok, row_join hs hk l⟩
theorem flat_at {w : World} {X : BSet} : ∀ (l : List (MbC w X)) (t : Nat), t < l.length * 6 → (l.map MbC.enc).flatten[t]? = some (((l[t / 6]?).getD default).enc[t % 6]!)
  | [], t, h => by simp at h
  | p :: l, t, h => by
    rw [List.map_cons, List.flatten_cons]
    have hp := p.len
    by_cases ht : t < 6
    · rw [List.getElem?_append_left (by omega), Nat.div_eq_of_lt ht, Nat.mod_eq_of_lt ht, getElem!_pos _ t (by simp; omega)]
      simp [List.getElem?_eq_getElem (show t < p.enc.length by omega)]
    · have hd : t / 6 = (t - 6) / 6 + 1 := by omega
      have hm : t % 6 = (t - 6) % 6 := by omega
      rw [List.getElem?_append_right (by omega), hp, hd, hm, flat_at l (t - 6) (by simp at h; omega)]
      simp
theorem flat_len {w : World} {X : BSet} : ∀ (l : List (MbC w X)), (l.map MbC.enc).flatten.length = l.length * 6
  | [] => rfl
  | p :: l => by rw [List.map_cons, List.flatten_cons, List.length_append, p.len, flat_len l, List.length_cons]; omega
theorem flat_eq {w : World} {X : BSet} (l : List (MbC w X)) : (Sort.flatK MbC.enc 6 l.toArray).toList = (l.map MbC.enc).flatten := by
  apply List.ext_getElem?
  intro t
  by_cases h : t < l.length * 6
  · rw [flat_at l t h]
    have h' : t < (Sort.flatK MbC.enc 6 l.toArray).size := by simpa using h
    have := Sort.get_flatK MbC.enc 6 l.toArray t (by simpa using h)
    rw [getElem!_pos _ t h'] at this
    rw [Array.getElem?_toList, Array.getElem?_eq_getElem h', this]
    congr 2
    simp [Array.getElem!_eq_getD, Array.getD_eq_getD_getElem?]
  · rw [List.getElem?_eq_none (by simpa using h), List.getElem?_eq_none (by rw [flat_len]; omega)]
def RetA (W : World) (hd : Option Nat) (φ : Value → World → Prop) : Ending → World → Prop := fun e W' => ∃ v, e = .returned v ∧ Keeps (fun k => k ∉ blks hd) W W' ∧ φ v W'
set_option maxHeartbeats 1000000 in
theorem ins_row {P : Program} {ρ : Shelf.Ren} (Ly : Proofs.SlLaysF0.n20 P ρ) (aE : ∀ w, (isAgg (ρ.t 24)).run P w = .ok true w) (zE : ∀ w, (Go.sizeOf (ρ.t 24)).run P w = .ok 6 w) (f : Nat) (ef : Enters P f)
    (hf : ∀ (a b : ByteArray) (c1 c2 c3 c4 c5 d1 d2 d3 d4 d5 : Value) (W : World), Calls P f #[.agg #[.string a, c1, c2, c3, c4, c5], .agg #[.string b, d1, d2, d3, d4, d5]] W fun e w' => e = .returned (.int .i64 (Lib.compareBytes a.data.toList b.data.toList)) ∧ ∃ q os, w' = Sort.grow (W.drewN q) os)
    (L : List Mb) (hn : 0 < L.length) (h12 : L.length ≤ 12) (w : World) (lo : Nat) (X : BSet) (v : Value) (hd : Option Nat) (hX : ∀ b o, X b o → b ∉ blks hd) {E : TypeId} (hE : E = ρ.t 24) (hA : Arr w lo E 6 X (L.map Mb.d) v hd) :
    Calls P (ρ.f 20) #[v, .int .i64 0, .int .i64 L.length, .func (.func f) #[] #[]] w (RetA w hd fun u W => u = .tuple #[] ∧ Arr W lo E 6 X ((sortMb L).map Mb.d) v hd) := by
  obtain ⟨g, cap, rfl, rfl⟩ := arr_open hA (by simpa using hn)
  have hA' := hA
  obtain ⟨_, cs, hown, hrow⟩ := hA
  obtain ⟨l, hl, rfl⟩ := row_split L cs hrow
  have hll : l.length = L.length := by rw [← hl, List.length_map]
  obtain ⟨hlen, hown⟩ := hown
  rcases hown with ⟨h0, _⟩ | ⟨g', cap', cur, hs, hlo, hg, hnc, hcm, hcs, htake⟩
  · cases h0
  simp at hs
  obtain ⟨rfl, rfl⟩ := hs
  rw [List.length_map] at hnc htake hlen
  have hsz : l.length * 6 ≤ cur.size := by rw [hcs, hll]; exact Nat.mul_le_mul_right _ hnc
  have hblk : g < w.heap.size := (Array.getElem?_eq_some_iff.1 hg).1
  have hH : Sort.HoldsK MbC.enc 6 w g 0 l.toArray := by
    intro j hj
    simp only [Sort.size_flatK, List.size_toArray] at hj
    constructor
    · have h1 := Sort.get_flatK MbC.enc 6 l.toArray j (by simpa using hj)
      have h2 := flat_at l j hj
      rw [← htake, List.getElem?_take, if_pos (by omega), Array.getElem?_toList] at h2
      unfold World.cell?
      rw [hg]
      simp only [Nat.zero_add]
      rw [h2, h1]
      simp [Array.getElem!_eq_getD, Array.getD_eq_getD_getElem?]
    · simp [World.frozen?, hg]
  have hc := Proofs.AnyQ.insertionSortCmpFunc (α := MbC w X) Ly 6 aE zE MbC.enc MbC.len (fun x u hu => by rw [oneC_eq]; exact rdc_one _ _ x.ok u hu) (fun x y => cfM x.mb y.mb) f #[] g 0 cap 0 l.length l.toArray w ef (fun m os dk _ x y => by
      obtain ⟨cx, mx, hx⟩ := x
      obtain ⟨cy, my, hy⟩ := y
      obtain ⟨a1, c1, a2, c2, ex, _⟩ := rdMb_out (⟨cx, hx, rfl⟩ : Rd w X mx.d (asm mx.d cx))
      obtain ⟨a1', c1', a2', c2', ey, _⟩ := rdMb_out (⟨cy, hy, rfl⟩ : Rd w X my.d (asm my.d cy))
      have ex' : Value.agg cx.toArray = _ := ex
      have ey' : Value.agg cy.toArray = _ := ey
      show Calls P f (#[.agg cx.toArray, .agg cy.toArray] ++ #[]) _ _
      rw [ex', ey']
      exact hf _ _ _ _ _ _ _ _ _ _ _ _ _) hH hblk (Nat.zero_le _) (by simp) (by simp only [maxLen] at hcm; simp; omega)
  have he : Sort.insertionSort (Proofs.ltOf fun x y : MbC w X => cfM x.mb y.mb) l.toArray 0 l.length = outerF (Proofs.ltOf fun x y : MbC w X => cfM x.mb y.mb) (L.length - 1) 1 l.toArray := by
    unfold Sort.insertionSort
    exact insOuter_eq _ _ _ _ _ (by omega)
  rw [he] at hc
  obtain ⟨d', hd'⟩ : ∃ d', d' = outerF (Proofs.ltOf fun x y : MbC w X => cfM x.mb y.mb) (L.length - 1) 1 l.toArray := ⟨_, rfl⟩
  rw [← hd'] at hc
  have hds : d'.size = l.length := by rw [hd', outerF_size]; simp
  have hmap : d'.toList.map MbC.mb = sortMb L := by
    have := outerF_map (lt := Proofs.ltOf fun x y : MbC w X => cfM x.mb y.mb) (lt' := ltM) MbC.mb MbC.mbd (fun x y => rfl) (L.length - 1) 1 l.toArray
    rw [← hd'] at this
    have h2 : (d'.map MbC.mb).toList = _ := congrArg Array.toList this
    rw [Array.toList_map] at h2
    rw [h2, sortMb]
    congr 2
    rw [← hl]; simp
  have hcs' : ((#[Value.slice (some ⟨g, 0, none⟩) L.length cap, .int .i64 (0 : Nat), .int .i64 (l.length : Nat), .func (.func f) #[] #[]] : Array Value)) = #[.slice (some ⟨g, 0, none⟩) (L.map Mb.d).length cap, .int .i64 0, .int .i64 L.length, .func (.func f) #[] #[]] := by rw [hll]; simp
  have hc2 := hc
  rw [show l.toArray.size = L.length by simpa using hll] at hc2
  rw [hcs'] at hc2
  refine hc2.mono ?_
  rintro e W ⟨rfl, n, os, rfl⟩
  have hflat : (Sort.flatK MbC.enc 6 d').toList = (d'.toList.map MbC.enc).flatten := by
    have := flat_eq d'.toList
    simpa using this
  have hput : (Proofs.sortWorldK MbC.enc 6 w g 0 n d' os).heap[g]? = some (.cells (Sort.putCells id 0 (Sort.flatK MbC.enc 6 d') cur) E (0, 0)) := by
    unfold Proofs.sortWorldK Sort.putRowK Sort.putRow
    rw [Sort.heap_grow_old _ _ (by simpa [Sort.mapBlock, Sort.ahead] using hblk)]
    simp [Sort.mapBlock, Sort.ahead, Array.getElem?_modify, hg, Sort.onCells]
  have hoth : ∀ k, k < w.heap.size → k ≠ g → (Proofs.sortWorldK MbC.enc 6 w g 0 n d' os).heap[k]? = w.heap[k]? := fun k hk hne => by
    unfold Proofs.sortWorldK Sort.putRowK Sort.putRow
    rw [Sort.heap_grow_old _ _ (by simpa [Sort.mapBlock, Sort.ahead] using hk)]
    simp [Sort.mapBlock, Sort.ahead, Array.getElem?_modify, Ne.symm hne]
  have hsize : w.heap.size ≤ (Proofs.sortWorldK MbC.enc 6 w g 0 n d' os).heap.size := by
    unfold Proofs.sortWorldK
    rw [Sort.size_grow]
    simp [Sort.putRowK, Sort.putRow, Sort.mapBlock, Sort.ahead]
  refine ⟨_, rfl, ⟨rfl, rfl, rfl, hsize, fun k hk hs => hoth k hk (fun e => hs (by simp [blks, e]))⟩, rfl, rfl, (d'.toList.map MbC.enc).flatten, ⟨?_, .inr ⟨g, cap, _, ?_, hlo, hput, ?_, hcm, ?_, ?_⟩⟩, ?_⟩
  · rw [flat_len, List.length_map, sortMb_len]; simp [hds, hll]
  · rw [List.length_map, List.length_map, sortMb_len]
  · rw [List.length_map, sortMb_len]; exact hnc
  · simp [Sort.putCells, hcs]
  · rw [List.length_map, sortMb_len, ← hflat]
    apply List.ext_getElem?
    intro t
    rw [List.getElem?_take]
    split
    · rename_i ht
      have h1 : t < cur.size := by omega
      have h2 : t < (Sort.flatK MbC.enc 6 d').size := by simp [hds]; omega
      simp only [Sort.putCells, Array.getElem?_toList, Array.getElem?_mapIdx, Array.getElem?_eq_getElem h1, Option.map_some, Array.getElem?_eq_getElem h2]
      rw [if_pos ⟨Nat.zero_le _, by omega⟩, Nat.sub_zero, getElem!_pos _ t h2]
      rfl
    · rw [List.getElem?_eq_none]
      simp [hds]; omega
  · rw [← hmap]
    exact row_join hsize (fun b hb hlt => hoth b hlt (fun e => hX b _ hb (by simp [blks, e]))) _
section
variable {P : Program} {ops : Array Oper} {S : Nat → Prop} {w0 : World} {a0 : Act} {Γ : Ctx}
variable {d : Option Tmp} {ty : TypeId} {pos : String} {af : Array Edge} {gd : Option (Nat × Bool)}
variable {K : List Oper → Ctx → (World → Prop) → List Bool → Prop} {l : List Oper} {Ψ Ψ' : World → Prop} {ms : List Bool}
theorem Has.fn {f : FuncId} : Has S w0 a0 Γ (.func f) (Is (.func (.func f) #[] #[])) := fun _ _ _ _ _ _ => rfl
theorem sp_indexStrK {x y : Operand} {T : TypeId} {s : ByteArray} {k : IntKind} {j : Int} {i : Nat} (hT : P.underlying T = some .string) (hx : Has S w0 a0 Γ x (Is (.string s))) (hy : Has S w0 a0 Γ y (Is (.int k j))) (hj : j = i) (hi : i < s.size) :
    Spec P ops S w0 a0 Γ ⟨d, .index T x y, ty, pos, af, gd⟩ (Is (.int .u8 ((s[i]'hi).toNat : Nat))) := sp_val fun a g W hk hg he => by
  have e1 : a.eval x = .string s := hx.of_env hk hg he (by simp [Op.operands])
  have e2 : a.eval y = .int k j := hy.of_env hk hg he (by simp [Op.operands])
  subst hj
  have hs : s[(i : Int).toNat]? = some (s[i]'hi) := by simp [hi]
  have h0 : (0 : Int) ≤ (i : Int) := by omega
  simp [execOp, e1, e2, Instr.index, asIntOf, run_und hT, h0, hi]
theorem u8i64 (x : UInt8) : IntKind.i64.wrap ((x.toNat : Nat) : Int) = ((x.toNat : Nat) : Int) := i64_in (by have := UInt8.toNat_lt x; omega)
end
end Go.Eng
namespace Go.Proofs.Ytnobijngkpflcaa
open Go.Eng
set_option maxRecDepth 100000 in
set_option maxHeartbeats 1000000 in
theorem cmpStr_ok (a b : ByteArray) (w : World) : Calls Try.prog 144 #[.string a, .string b] w fun e w' => e = .returned (.int .i64 (Lib.compareBytes a.data.toList b.data.toList)) ∧ w' = w := by
  go_enter Try.func144, Try.ntmps144
  go_wp2
  rw [run_callFunc_extern Try.func163 (by kernel_rfl) (by kernel_rfl) (by kernel_rfl) (e := Extern.BytealgCompare.compare) (by kernel_rfl), Lib.run_compareString]
  simp only [Result.andThen]
  rw [Oper.upon_value]
  go_wp2
  go_ret
  exact ⟨rfl, rfl⟩
theorem compare_ok (a b : ByteArray) (w : World) : Calls Try.prog 97 #[.string a, .string b] w fun e w' => e = .returned (.int .i64 (Lib.compareBytes a.data.toList b.data.toList)) ∧ w' = w := by
  go_enter Try.func97, Try.ntmps97
  go_wp2_with (go_at_call 144; refine (cmpStr_ok _ _ _).mono ?_; rintro e w' ⟨rfl, rfl⟩)
  go_ret
  exact ⟨rfl, rfl⟩
theorem cmpMb_ok (a b : ByteArray) (c1 c2 c3 c4 c5 d1 d2 d3 d4 d5 : Value) (W : World) : Calls Try.prog 96 #[.agg #[.string a, c1, c2, c3, c4, c5], .agg #[.string b, d1, d2, d3, d4, d5]] W fun e w' => e = .returned (.int .i64 (Lib.compareBytes a.data.toList b.data.toList)) ∧ ∃ q os, w' = Sort.grow (W.drewN q) os := by
  have hcon := fun W' => compare_ok a b W'
  generalize Lib.compareBytes a.data.toList b.data.toList = r at hcon ⊢
  go_enter Try.func96, Try.ntmps96
  go_wp2_with (go_at_call 97; refine (hcon _).mono ?_; rintro e w' ⟨rfl, rfl⟩)
  go_ret
  exact ⟨rfl, 0, _, by rw [Sort.alloc_eq_grow, Sort.alloc_eq_grow, Sort.grow_grow]; rfl⟩
def renS : Shelf.Ren := ⟨fun x => if x = 20 then 153 else x, fun x => if x = 22 then 82 else if x = 24 then 67 else if x = 25 then 136 else x, fun x => x⟩
theorem bears20 : Bears Try.prog (renS.f 20) (SlBodyF.n20 renS) := ⟨_, by kernel_rfl, Try.func153⟩
theorem lays20 : SlLaysF0.n20 Try.prog renS := ⟨by kernel_rfl, bears20, Try.underlying0, Try.isAgg0, Try.sizeOf0, Try.zeroValue0, Try.underlying3, Try.isAgg3, Try.sizeOf3, Try.zeroValue3, Try.underlying4, Try.isAgg4, Try.sizeOf4, Try.zeroValue4, Try.underlying82, Try.isAgg82, Try.sizeOf82, Try.zeroValue82, Try.underlying136, Try.isAgg136, Try.sizeOf136, Try.zeroValue136⟩
theorem ins_ok (L : List Mb) (hn : 0 < L.length) (h12 : L.length ≤ 12) (w : World) (lo : Nat) (X : BSet) (v : Value) (hd : Option Nat) (hX : ∀ b o, X b o → b ∉ blks hd) (hA : Arr w lo 67 6 X (L.map Mb.d) v hd) :
    Calls Try.prog 153 #[v, .int .i64 0, .int .i64 L.length, .func (.func 96) #[] #[]] w (RetA w hd fun u W => u = .tuple #[] ∧ Arr W lo 67 6 X ((sortMb L).map Mb.d) v hd) :=
  ins_row lays20 Try.isAgg67 Try.sizeOf67 96 ent96 cmpMb_ok L hn h12 w lo X v hd hX rfl hA
theorem u8i (x : UInt8) : IntKind.i64.wrap ((0 : Int) + (((x.toNat : Nat) : Int) : Int)) = (0 : Int) + (((x.toNat : Nat) : Int) : Int) := i64_in (by have := UInt8.toNat_lt x; omega)
set_option maxRecDepth 100000 in
theorem len64_ok (n : Nat) (h : n ≤ 12) (w : World) : Calls Try.prog 162 #[.int .u64 n] w (Ret w fun u _ => ∃ l : Int, u = .int .i64 l) := by
  refine enter Try.func162 rfl Try.ntmps162 (lbr rfl) fun a0 y0 zz0 harg => ?_
  have e0 : sl a0 0 = (.int .u64 ((n : Nat))) := harg 0 (lbr rfl)
  have kw := Keeps.refl All w
  clear harg
  refine wp_seq_k fun K1 hK1 => ?_
  refine rg mixed y0 zz0 ?_
  refine .i (sp_assign Has.cst) ?_
  refine .done ⟨by kernel_rfl, fun a2 g W2 y2 zz2 hk hg hV hR hP => ?_⟩
  obtain ⟨e2, -⟩ := hV
  replace e0 := (hR 0 rfl).trans e0
  have e2 : sl a2 2 = (.int .i64 (0)) := e2
  replace kw := kw.x hk
  clear hR hk hg hP
  refine tail_nil (hK1 _ _ ?_)
  refine wp_seq_k fun K3 hK3 => ?_
  refine wp_seq_k fun K4 hK4 => ?_
  refine rg mixed y2 zz2 ?_
  refine .i (sp_move (hbs rfl e0)) ?_
  refine .i (sp_geq (hlc rfl) Has.cst) ?_
  refine .done ⟨by kernel_rfl, fun a5 g W5 y5 zz5 hk hg hV hR hP => ?_⟩
  obtain ⟨e4, -, -⟩ := hV
  replace e0 := (hR 0 rfl).trans e0
  replace e2 := (hR 2 rfl).trans e2
  replace e4 := e4.q
  replace kw := kw.x hk
  clear hR hk hg hP
  refine tail_nil (hK4 _ _ ?_)
  refine wp_cond_split e4 (fun hc => ?_) (fun hc => ?_)
  ·
   exfalso
   have := of_decide_eq_true hc
   omega
  ·
   refine wp_skip (hK3 _ _ ?_)
   refine wp_seq_k fun K6 hK6 => ?_
   refine wp_seq_k fun K7 hK7 => ?_
   refine rg mixed y5 zz5 ?_
   refine .i (sp_move (hbs rfl e0)) ?_
   refine .i (sp_geq (hlc rfl) Has.cst) ?_
   refine .done ⟨by kernel_rfl, fun a8 g W8 y8 zz8 hk hg hV hR hP => ?_⟩
   obtain ⟨e8, -, -⟩ := hV
   replace e0 := (hR 0 rfl).trans e0
   replace e2 := (hR 2 rfl).trans e2
   replace e8 := e8.q
   replace kw := kw.x hk
   clear hR hk hg hP
   refine tail_nil (hK7 _ _ ?_)
   refine wp_cond_split e8 (fun hc => ?_) (fun hc => ?_)
   ·
    exfalso
    have := of_decide_eq_true hc
    omega
   ·
    refine wp_skip (hK6 _ _ ?_)
    refine wp_seq_k fun K9 hK9 => ?_
    refine wp_seq_k fun K10 hK10 => ?_
    refine rg mixed y8 zz8 ?_
    refine .i (sp_move (hbs rfl e0)) ?_
    refine .i (sp_geq (hlc rfl) Has.cst) ?_
    refine .done ⟨by kernel_rfl, fun a11 g W11 y11 zz11 hk hg hV hR hP => ?_⟩
    obtain ⟨e14, -, -⟩ := hV
    replace e0 := (hR 0 rfl).trans e0
    replace e2 := (hR 2 rfl).trans e2
    replace e14 := e14.q
    replace kw := kw.x hk
    clear hR hk hg hP
    refine tail_nil (hK10 _ _ ?_)
    refine wp_cond_split e14 (fun hc => ?_) (fun hc => ?_)
    ·
     exfalso
     have := of_decide_eq_true hc
     omega
    ·
     refine wp_skip (hK9 _ _ ?_)
     refine wp_seq_k fun K12 hK12 => ?_
     refine rg mixed y11 zz11 ?_
     refine .i (sp_move (hbs rfl e2)) ?_
     refine .i (sp_move (hbs rfl e0)) ?_
     refine .i (v := (.int .u8 ((n : Nat)))) (sp_conv Try.underlying200 Try.underlying5 (hlc rfl) (u8_in (by omega))) ?_
     refine .i (v := (.int .u8 ((((⟨#[0, 1, 2, 2, 3, 3, 3, 3, 4, 4, 4, 4, 4, 4, 4, 4, 5, 5, 5, 5, 5, 5, 5, 5, 5, 5, 5, 5, 5, 5, 5, 5, 6, 6, 6, 6, 6, 6, 6, 6, 6, 6, 6, 6, 6, 6, 6, 6, 6, 6, 6, 6, 6, 6, 6, 6, 6, 6, 6, 6, 6, 6, 6, 6, 7, 7, 7, 7, 7, 7, 7, 7, 7, 7, 7, 7, 7, 7, 7, 7, 7, 7, 7, 7, 7, 7, 7, 7, 7, 7, 7, 7, 7, 7, 7, 7, 7, 7, 7, 7, 7, 7, 7, 7, 7, 7, 7, 7, 7, 7, 7, 7, 7, 7, 7, 7, 7, 7, 7, 7, 7, 7, 7, 7, 7, 7, 7, 7, 8, 8, 8, 8, 8, 8, 8, 8, 8, 8, 8, 8, 8, 8, 8, 8, 8, 8, 8, 8, 8, 8, 8, 8, 8, 8, 8, 8, 8, 8, 8, 8, 8, 8, 8, 8, 8, 8, 8, 8, 8, 8, 8, 8, 8, 8, 8, 8, 8, 8, 8, 8, 8, 8, 8, 8, 8, 8, 8, 8, 8, 8, 8, 8, 8, 8, 8, 8, 8, 8, 8, 8, 8, 8, 8, 8, 8, 8, 8, 8, 8, 8, 8, 8, 8, 8, 8, 8, 8, 8, 8, 8, 8, 8, 8, 8, 8, 8, 8, 8, 8, 8, 8, 8, 8, 8, 8, 8, 8, 8, 8, 8, 8, 8, 8, 8, 8, 8, 8, 8, 8, 8, 8, 8, 8, 8, 8, 8]⟩ : ByteArray)[n]'(Nat.lt_of_le_of_lt h (lbr rfl))).toNat : Nat)))) (sp_indexStrK (i := n) Try.underlying9 Has.cst (hlc rfl) rfl (Nat.lt_of_le_of_lt h (lbr rfl))) ?_
     refine .i (v := (.int .i64 ((((⟨#[0, 1, 2, 2, 3, 3, 3, 3, 4, 4, 4, 4, 4, 4, 4, 4, 5, 5, 5, 5, 5, 5, 5, 5, 5, 5, 5, 5, 5, 5, 5, 5, 6, 6, 6, 6, 6, 6, 6, 6, 6, 6, 6, 6, 6, 6, 6, 6, 6, 6, 6, 6, 6, 6, 6, 6, 6, 6, 6, 6, 6, 6, 6, 6, 7, 7, 7, 7, 7, 7, 7, 7, 7, 7, 7, 7, 7, 7, 7, 7, 7, 7, 7, 7, 7, 7, 7, 7, 7, 7, 7, 7, 7, 7, 7, 7, 7, 7, 7, 7, 7, 7, 7, 7, 7, 7, 7, 7, 7, 7, 7, 7, 7, 7, 7, 7, 7, 7, 7, 7, 7, 7, 7, 7, 7, 7, 7, 7, 8, 8, 8, 8, 8, 8, 8, 8, 8, 8, 8, 8, 8, 8, 8, 8, 8, 8, 8, 8, 8, 8, 8, 8, 8, 8, 8, 8, 8, 8, 8, 8, 8, 8, 8, 8, 8, 8, 8, 8, 8, 8, 8, 8, 8, 8, 8, 8, 8, 8, 8, 8, 8, 8, 8, 8, 8, 8, 8, 8, 8, 8, 8, 8, 8, 8, 8, 8, 8, 8, 8, 8, 8, 8, 8, 8, 8, 8, 8, 8, 8, 8, 8, 8, 8, 8, 8, 8, 8, 8, 8, 8, 8, 8, 8, 8, 8, 8, 8, 8, 8, 8, 8, 8, 8, 8, 8, 8, 8, 8, 8, 8, 8, 8, 8, 8, 8, 8, 8, 8, 8, 8, 8, 8, 8, 8, 8, 8]⟩ : ByteArray)[n]'(Nat.lt_of_le_of_lt h (lbr rfl))).toNat : Nat)))) (sp_conv Try.underlying5 Try.underlying3 (hlc rfl) (u8i64 _)) ?_
     refine .i (sp_add (hlc rfl) (hlc rfl) (u8i _)) ?_
     refine .i (sp_assign (hlc rfl)) ?_
     refine .done ⟨by kernel_rfl, fun a13 g W13 y13 zz13 hk hg hV hR hP => ?_⟩
     obtain ⟨e2, -, -, -, -, -, -, -⟩ := hV
     replace e2 := e2.q
     replace kw := kw.x hk
     clear hR hk hg hP
     refine tail_nil (hK12 _ _ ?_)
     refine wp_ret ?_
     refine (show bodyPost Try.prog Try.f162 _ .ret _ _ from ret1 rfl zz13 e2 ⟨_, rfl, kw, ?_⟩)
     exact ⟨_, rfl⟩
theorem len_ok (n : Nat) (h : n ≤ 12) (w : World) : Calls Try.prog 143 #[.int .u64 n] w (Ret w fun u _ => ∃ l : Int, u = .int .i64 l) := by
  have hcon := fun W => len64_ok n h W
  go_enter Try.func143, Try.ntmps143
  go_wp2_with (go_at_call 162; refine (hcon _).mono ?_; rintro e w' ⟨u, rfl, hk, l, rfl⟩)
  go_ret
  exact ⟨_, rfl, hk, _, rfl⟩
set_option maxHeartbeats 1000000 in
theorem pdq_ok (L : List Mb) (hn : 0 < L.length) (h12 : L.length ≤ 12) (lim : Int) (w : World) (lo : Nat) (X : BSet) (v : Value) (hd : Option Nat) (hX : ∀ b o, X b o → b ∉ blks hd) (hA : Arr w lo 67 6 X (L.map Mb.d) v hd) :
    Calls Try.prog 142 #[v, .int .i64 0, .int .i64 L.length, .int .i64 lim, .func (.func 96) #[] #[]] w (RetA w hd fun u W => u = .tuple #[] ∧ Arr W lo 67 6 X ((sortMb L).map Mb.d) v hd) := by
  have hc := ins_ok L hn h12 w lo X v hd hX hA
  have h1 : (L.length : Int) ≤ 12 := by omega
  go_enter Try.func142, Try.ntmps142
  go_wp2
  refine wp_loopAt (loopAt ?_)
  go_wp2_with (go_at_call 153; refine hc.mono ?_; rintro e w' ⟨u, rfl, hk, rfl, hA2⟩)
  go_end0
  exact ⟨_, rfl, hk, rfl, hA2⟩
set_option maxHeartbeats 1000000 in
theorem sort_ok (L : List Mb) (hn : 0 < L.length) (h12 : L.length ≤ 12) (w : World) (lo : Nat) (X : BSet) (v : Value) (hd : Option Nat) (hX : ∀ b o, X b o → b ∉ blks hd) (hA : Arr w lo 67 6 X (L.map Mb.d) v hd) :
    Calls Try.prog 95 #[v, .func (.func 96) #[] #[]] w (RetA w hd fun u W => u = .tuple #[] ∧ Arr W lo 67 6 X ((sortMb L).map Mb.d) v hd) := by
  have hc := fun lim W (k : Ext w W) => pdq_ok L hn h12 lim W lo X v hd hX (hA.ext k)
  have hl := fun W => len_ok L.length h12 W
  obtain ⟨g, cap, rfl, rfl⟩ := arr_open hA (by simpa using hn)
  rw [List.length_map] at hc ⊢
  have hw : IntKind.u64.wrap (L.length : Int) = L.length := u64_in (by omega)
  go_enter Try.func95, Try.ntmps95
  go_wp2_with fail
  refine (hl _).mono ?_
  rintro e w' ⟨u, rfl, hk, l, rfl⟩
  go_wp2_with fail
  refine (hc _ _ hk).mono ?_
  rintro e w' ⟨u, rfl, hk2, rfl, hA2⟩
  go_wp2
  go_end0
  exact ⟨_, rfl, (Keeps.of_ext hk).trans hk2, rfl, hA2⟩
end Go.Proofs.Ytnobijngkpflcaa
namespace Go.Eng
theorem Arr.lo {W : World} {lo lo' : Nat} {e : TypeId} {sz : Nat} {X : BSet} {ds : List D} {v : Value} {hd : Option Nat} (h : Arr W lo e sz X ds v hd) (hl : lo' ≤ lo) : Arr W lo' e sz X ds v hd := by
  obtain ⟨h1, cs, ⟨h2, h3⟩, h4⟩ := h
  exact ⟨h1, cs, ⟨h2, h3.imp id fun ⟨g, cap, cur, a, b, c⟩ => ⟨g, cap, cur, a, Nat.le_trans hl b, c⟩⟩, h4⟩
section
variable {S0 S1 : Nat → Prop} {w w0 W W' : World} {S : BSet} {M : List Nat} {g : Gh} {e : TypeId} {sz : Nat} {ds : List D} {u : Value}
theorem arr_arA (kw : Keeps S0 w w0) (hM : ∀ b ∈ M, b < w0.heap.size) (hk : Keeps S1 w0 W) (h : ∃ hd, Arr W' W.heap.size e sz (fun b o => Ar W (fun b o => SA w S M b o ∧ Out g b) b o ∧ b ∉ blks hd) ds u hd) : IsArr w0 w.heap.size e sz (SA w S M) ds none g u W' := by
  obtain ⟨hd, h⟩ := h
  refine ⟨hd, (h.lo (Nat.le_trans kw.size hk.size)).mono fun b o hb hlt => ⟨?_, hb.2⟩, fun b hb => .inr (Nat.le_trans hk.size (h.ge b hb))⟩
  by_cases hb' : b < W.heap.size
  · exact (hb.1.1 hb').1
  · have h1 := kw.size
    have h2 := hk.size
    exact ⟨fun h => by omega, fun _ => hb.1.2 (by omega), fun hm => by have := hM b hm; omega⟩
theorem arr_sa_ar {hd : Option Nat} {v : Value} (h : Arr W w.heap.size e sz (SA w S (blks hd ++ [])) ds v hd) : ∃ hd, Arr W w.heap.size e sz (fun b o => Ar w S b o ∧ b ∉ blks hd) ds v hd :=
  ⟨hd, h.mono fun b o hb _ => ⟨⟨hb.1, hb.2.1⟩, fun hm => hb.2.2 (by simpa using hm)⟩⟩
end
def adj : List Mb → Bool
  | a :: b :: r => decide (a.nm = b.nm) || adj (b :: r)
  | _ => false
theorem adj_true : ∀ (L : List Mb) (i : Nat) (h : i + 1 < L.length), L[i].nm = L[i + 1].nm → adj L = true
  | [], i, h, _ => by simp at h
  | [a], i, h, _ => by simp at h
  | a :: b :: r, 0, _, he => by simp at he; simp [adj, he]
  | a :: b :: r, i + 1, h, he => by
    have := adj_true (b :: r) i (by simpa using h) (by simpa using he)
    simp [adj, this]
theorem adj_false : ∀ (L : List Mb), (∀ i (h : i + 1 < L.length), L[i].nm ≠ L[i + 1].nm) → adj L = false
  | [], _ => rfl
  | [a], _ => rfl
  | a :: b :: r, h => by
    have h0 := h 0 (by simp)
    have := adj_false (b :: r) fun i hi => h (i + 1) (by simpa using hi)
    simp at h0
    simp [adj, h0, this]
def objE (L : List Mb) : Int := if adj (sortMb L) then 7 else 0
def objM (L : List Mb) : V := if adj (sortMb L) then ⟨0, 0, ⟨#[]⟩, [], []⟩ else ⟨5, 0, ⟨#[]⟩, (sortMb L).map Mb.nm, (sortMb L).map Mb.v⟩
theorem all_set {α : Type} {p : α → Prop} (d : Array α) (i : Nat) (x : α) (h : ∀ y ∈ d, p y) (hx : p x) : ∀ y ∈ d.setIfInBounds i x, p y := fun y hy => by
  rw [← Array.mem_toList_iff, Array.toList_setIfInBounds] at hy
  rcases List.mem_or_eq_of_mem_set hy with h1 | h1
  · exact h y (by rwa [Array.mem_toList_iff] at h1)
  · exact h1 ▸ hx
theorem insInner_all {α : Type} [Inhabited α] {p : α → Prop} (lt : α → α → Bool) : ∀ (j : Nat) (d : Array α), j < d.size → (∀ y ∈ d, p y) → ∀ y ∈ Sort.insInner lt 0 j d, p y
  | 0, d, _, h => h
  | j + 1, d, hj, h => by
    rw [Sort.insInner]
    split
    · refine insInner_all lt j _ (by simp [Sort.swp]; omega) ?_
      have g : ∀ i, i < d.size → p d[i]! := fun i hi => by rw [getElem!_pos d i hi]; exact h _ (Array.getElem_mem hi)
      exact all_set _ _ _ (all_set _ _ _ h (g j (by omega))) (g (j + 1) hj)
    · exact h
theorem outerF_all {α : Type} [Inhabited α] {p : α → Prop} (lt : α → α → Bool) : ∀ (f i : Nat) (d : Array α), i + f ≤ d.size → (∀ y ∈ d, p y) → ∀ y ∈ outerF lt f i d, p y
  | 0, _, d, _, h => h
  | f + 1, i, d, hi, h => by
    rw [outerF]
    exact outerF_all lt f (i + 1) _ (by rw [insInner_size]; omega) (insInner_all lt i d (by omega) h)
theorem sortMb_all {p : Mb → Prop} (L : List Mb) (h : ∀ m ∈ L, p m) : ∀ m ∈ sortMb L, p m := by
  cases L with
  | nil => intro m hm; simp [sortMb, outerF] at hm
  | cons x xs =>
    intro m hm
    unfold sortMb at hm
    rw [Array.mem_toList_iff] at hm
    exact outerF_all ltM _ _ _ (by simp; omega) (fun y hy => h y (by simpa using hy)) m hm
end Go.Eng
namespace Go.Proofs.Ytnobijngkpflcaa
open Go.Eng
set_option maxRecDepth 100000 in
theorem cloneM_ok (L : List Mb) (hn : L.length ≤ 1073741824) (w : World) (S : BSet) (v : Value) (hv : Rd w S (mbsD L) v) : Calls Try.prog 94 #[v] w (Ret w fun u W => ∃ hd, Arr W w.heap.size 67 6 (fun b o => Ar w S b o ∧ b ∉ blks hd) (L.map Mb.d) u hd) := by
  obtain ⟨va, vc, ev, D_v⟩ := rdMbs_out (rd_arg hv)
  subst ev
  refine enter Try.func94 rfl Try.ntmps94 (lbr rfl) fun a0 y0 zz0 harg => ?_
  have e0 : sl a0 0 = (.slice va (L.length) vc) := harg 0 (lbr rfl)
  have kw := Keeps.refl All w
  clear harg
  refine wp_seq_k fun K1 hK1 => ?_
  refine rg mixed y0 zz0 ?_
  refine .i (sp_assign Has.cst) ?_
  refine .done ⟨by kernel_rfl, fun a2 g W2 y2 zz2 hk hg hV hR hP => ?_⟩
  obtain ⟨-, -⟩ := hV
  replace e0 := (hR 0 rfl).trans e0
  replace D_v := D_v.ext hk
  replace kw := kw.x hk
  clear hR hk hg hP
  refine tail_nil (hK1 _ _ ?_)
  refine wp_seq_k fun K3 hK3 => ?_
  refine wp_seq_k fun K4 hK4 => ?_
  refine rg mixed y2 zz2 ?_
  refine .i (sp_move (hbs rfl e0)) ?_
  refine .i (v := (.bool (va.isNone))) (sp_slNil Try.underlying82 (hlc rfl) Has.cst) ?_
  refine .done ⟨by kernel_rfl, fun a5 g W5 y5 zz5 hk hg hV hR hP => ?_⟩
  obtain ⟨e4, -, -⟩ := hV
  replace e0 := (hR 0 rfl).trans e0
  replace D_v := D_v.ext hk
  have e4 : sl a5 4 = (.bool (va.isNone)) := e4
  replace kw := kw.x hk
  clear hR hk hg hP
  refine tail_nil (hK4 _ _ ?_)
  refine wp_cond_split e4 (fun hc => ?_) (fun hc => ?_)
  ·
   have hns : L = [] := by simpa using rd_none (ds := L.map Mb.d) D_v hc
   subst hns
   refine wp_seq_k fun K6 hK6 => ?_
   refine rg mixed y5 zz5 ?_
   refine .i (sp_assign Has.cst) ?_
   refine .done ⟨by kernel_rfl, fun a7 g W7 y7 zz7 hk hg hV hR hP => ?_⟩
   obtain ⟨e2, -⟩ := hV
   replace D_v := D_v.ext hk
   have e2 : sl a7 2 = (.slice none 0 0) := e2
   replace kw := kw.x hk
   clear hR hk hg hP
   refine tail_nil (hK6 _ _ ?_)
   refine wp_ret ?_
   refine (show bodyPost Try.prog Try.f94 _ .ret _ _ from ret1 rfl zz7 e2 ⟨_, rfl, kw, ?_⟩)
   exact ⟨none, arr_nil _ _ _ _ _⟩
  ·
   refine wp_skip (hK3 _ _ ?_)
   refine wp_seq_k fun K8 hK8 => ?_
   refine rg mixed y5 zz5 ?_
   refine .op (φ := IsArr W5 w.heap.size 67 6 (SA w S []) ([]) none) st_arr (sp_bslA Try.underlying82 sz67 kw.size) ?_
   refine .done ⟨by kernel_rfl, fun a9 g W9 y9 zz9 hk hg hV hR hP => ?_⟩
   obtain ⟨e5, -⟩ := hV
   replace e0 := (hR 0 rfl).trans e0
   obtain ⟨v5_9, ev⟩ : ∃ v, sl a9 5 = v := ⟨_, rfl⟩
   rw [ev] at e5
   obtain ⟨hd5_9, A_5_9, hf5_9⟩ := e5
   have e5 := ev; clear ev
   replace hf5_9 := row_new hf5_9
   obtain ⟨v5_9a, v5_9n, v5_9c, ev⟩ := arr_sl A_5_9; subst ev
   replace A_5_9 : Arr W9 w.heap.size 67 6 (SA w S (blks hd5_9 ++ [])) (List.map Mb.d ([])) (.slice v5_9a v5_9n v5_9c) hd5_9 := arrA_new A_5_9 (M' := (blks hd5_9 ++ [])) (fun b hb => (List.mem_append.1 hb).symm)
   replace D_v : Rd W9 (SA w S (blks hd5_9 ++ [])) (mbsD (L)) (.slice va (L.length) vc) := sa_more D_v hk (blks hd5_9) hf5_9
   replace kw := kw.x hk
   clear hR hk hg hP hf5_9
   refine tail_reg 2 (fun k => k ∉ blks hd5_9) (Ψ := fun W => Arr W w.heap.size 67 6 (SA w S (blks hd5_9 ++ [])) (List.map Mb.d ([])) (.slice v5_9a v5_9n v5_9c) hd5_9) y9 zz9 (fun W W' k h => h.ext k) A_5_9 rfl ?_
   refine .i (sp_move (hbs rfl e0)) ?_
   refine .appB (ds := List.map Mb.d ([])) (es := List.map Mb.d (L)) (X := SA w S (blks hd5_9 ++ [])) Try.underlying82 inf67 (lbr rfl) (hbs rfl e5) ((hlc rfl).dat D_v (sub_nb (fun b hb => List.mem_append_left _ hb))) (sub_nb (fun b hb => List.mem_append_left _ hb)) (by simp [maxLen]; omega) (by simp; omega) kw.size ?_
   refine .done ⟨by kernel_rfl, fun a10 g W10 y10 zz10 hk hg hV hR hP => ?_⟩
   refine tail_nil ?_
   show runTail _ _ _ _ _ _
   obtain ⟨e7, -, -⟩ := hV
   obtain ⟨v7_10, ev⟩ : ∃ v, sl a10 7 = v := ⟨_, rfl⟩
   rw [ev] at e7
   obtain ⟨hd7_10, A_7_10, hf7_10⟩ := e7
   have e7 := ev; clear ev
   obtain ⟨v7_10a, v7_10n, v7_10c, ev⟩ := arr_sl A_7_10; subst ev
   replace A_7_10 := arrA_new (M' := (blks hd7_10 ++ [])) A_7_10 (rep_app (rep_q fun _ h => h) rep_nil)
   replace A_7_10 : Arr W10 w.heap.size 67 6 (SA w S (blks hd7_10 ++ [])) (List.map Mb.d (L)) (.slice v7_10a v7_10n v7_10c) hd7_10 := by first | exact A_7_10 | (rw [List.map_append]; exact A_7_10)
   replace D_v := sa_app (M' := (blks hd7_10 ++ [])) D_v hk (fun b hb => List.mem_append_left _ hb) (rep_app hf7_10 rep_nil)
   replace kw := keeps_app kw hk A_5_9.ge
   clear hR hk hg hP hf7_10 A_5_9
   refine tail_assign (v := (.slice v7_10a v7_10n v7_10c)) e7 (by rw [y10]; exact Nat.le_of_ble_eq_true rfl) (fun a11 y11 zz11 e2 hr => ?_)
   replace y11 := y11.trans y10; replace zz11 := zz11.trans zz10
   replace e7 := (hr 7 (by decide)).trans e7
   clear hr
   refine tail_nil (hK8 _ _ ?_)
   refine wp_ret ?_
   refine (show bodyPost Try.prog Try.f94 _ .ret _ _ from ret1 rfl zz11 e2 ⟨_, rfl, kw, ?_⟩)
   exact arr_sa_ar A_7_10
set_option maxRecDepth 100000 in
theorem ObjectOf_ok (L : List Mb) (hn : 0 < L.length) (h12 : L.length ≤ 12) (hw : ∀ m ∈ L, m.v.wt ≤ 1073741824) (w : World) (S : BSet) (v : Value) (hS : ∀ b o, S b o → Cln o) (hv : Rd w S (mbsD L) v) : Calls Try.prog 38 #[v] w (Ret w fun r W => ∃ r1, r = .tuple #[r1, .int .i64 (objE L)] ∧ Rd W (Fr w) (objM L).d r1) := by
  have hsl := sortMb_len L
  have hwS := sortMb_all L hw
  obtain ⟨va, vc, ev, D_v⟩ := rdMbs_out (rd_arg hv)
  subst ev
  refine enter Try.func38 rfl Try.ntmps38 (lbr rfl) fun a0 y0 zz0 harg => ?_
  have e0 : sl a0 0 = (.slice va (L.length) vc) := harg 0 (lbr rfl)
  have kw := Keeps.refl All w
  clear harg
  refine wp_seq_k fun K1 hK1 => ?_
  refine rg mixed y0 zz0 ?_
  refine .alloc z33 ?_
  refine .i (sp_assign Has.cst) ?_
  refine .done ⟨by kernel_rfl, fun a2 g W2 y2 zz2 hk hg hV hR hP => ?_⟩
  obtain ⟨-, ⟨b2_2, e2, hb2, own_b2_2⟩, -⟩ := hV
  have lo_b2_2 : w.heap.size ≤ b2_2 := Nat.le_trans kw.size (hg.lo _ _ hb2)
  have own_b2_2 : Own W2 b2_2 [(.int .u8 (0)), (.int .i64 (0)), (.string (⟨#[]⟩)), (.slice none 0 0), (.slice none 0 0)] 33 := own_b2_2
  replace e0 := (hR 0 rfl).trans e0
  replace D_v := sa_more D_v hk [b2_2] (in_cons (hg.lo _ _ hb2) in_nil)
  replace kw := kw.x hk
  clear hR hk hg hP hb2
  refine tail_nil (hK1 _ _ ?_)
  refine wp_seq_k fun K3 hK3 => ?_
  refine rg mixed y2 zz2 ?_
  refine .i (sp_move (hbs rfl e0)) ?_
  refine .op (φ := IsArr W2 w.heap.size 67 6 (SA w S [b2_2]) (List.map Mb.d (L)) none) st_arr (sp_call1 (φ1 := IsD (SA w S [b2_2]) (mbsD (L))) ent94 ((hlc rfl).dat D_v sub_all) (fun g u1 W hk hgk h1 => (cloneM_ok (L) (by omega) W _ _ h1).mono (fun _ _ ⟨v, h1, h2, h3⟩ => ⟨v, h1, h2, arr_arA kw (in_cons own_b2_2.lt in_nil) hk h3⟩))) ?_
  refine .done ⟨by kernel_rfl, fun a4 g W4 y4 zz4 hk hg hV hR hP => ?_⟩
  obtain ⟨e9, -, -⟩ := hV
  replace e2 := (hR 2 rfl).trans e2
  obtain ⟨v9_4, ev⟩ : ∃ v, sl a4 9 = v := ⟨_, rfl⟩
  rw [ev] at e9
  obtain ⟨hd9_4, A_9_4, hf9_4⟩ := e9
  have e9 := ev; clear ev
  replace hf9_4 := row_new hf9_4
  obtain ⟨v9_4a, v9_4n, v9_4c, ev⟩ := arr_sl A_9_4; subst ev
  replace A_9_4 : Arr W4 w.heap.size 67 6 (SA w S (blks hd9_4 ++ (b2_2 :: []))) (List.map Mb.d (L)) (.slice v9_4a v9_4n v9_4c) hd9_4 := arrA_new A_9_4 (M' := (blks hd9_4 ++ (b2_2 :: []))) (fun b hb => (List.mem_append.1 hb).symm)
  have nb_b2_2_4 : b2_2 ∉ blks hd9_4 := fun hm => absurd (hf9_4 _ hm) (Nat.not_le.2 own_b2_2.lt)
  replace D_v : Rd W4 (SA w S (blks hd9_4 ++ (b2_2 :: []))) (mbsD (L)) (.slice va (L.length) vc) := sa_more D_v hk (blks hd9_4) hf9_4
  replace own_b2_2 := own_b2_2.ext hk
  replace kw := kw.x hk
  clear hR hk hg hP hf9_4
  refine tail_assign (v := (.slice v9_4a v9_4n v9_4c)) e9 (by rw [y4]; exact Nat.le_of_ble_eq_true rfl) (fun a5 y5 zz5 e4 hr => ?_)
  replace y5 := y5.trans y4; replace zz5 := zz5.trans zz4
  replace e2 := (hr 2 (by decide)).trans e2
  replace e9 := (hr 9 (by decide)).trans e9
  clear hr
  refine tail_nil (hK3 _ _ ?_)
  refine wp_seq_k fun K6 hK6 => ?_
  refine wp_reg (fun k => k ∉ blks hd9_4) (Ψ := fun W => Arr W w.heap.size 67 6 (SA w S (blks hd9_4 ++ (b2_2 :: []))) (List.map Mb.d (L)) (.slice v9_4a v9_4n v9_4c) hd9_4) mixed y5 zz5 (fun W W' k h => h.ext k) A_9_4 ?_
  refine .i (sp_move (hbs rfl e4)) ?_
  refine .callL2 (φ1 := Is (.slice v9_4a v9_4n v9_4c)) (φ2 := Is (.func (.func 96) #[] #[])) (φ := Is (.tuple #[])) (Ψ' := fun W => Arr W w.heap.size 67 6 (SA w S (blks hd9_4 ++ (b2_2 :: []))) (List.map Mb.d (sortMb L)) (.slice v9_4a v9_4n v9_4c) hd9_4) ent95 (hlc rfl) Has.fn (st_is _) (fun W W' k h => h.ext k) (fun g u1 u2 W hk hg h1 h2 hP => by have h1 : u1 = _ := h1; subst u1; have h2 : u2 = _ := h2; subst u2; exact sort_ok (L) hn h12 W _ _ _ _ (sub_nb (fun b hb => List.mem_append_left _ hb)) hP) ?_
  refine .done ⟨by kernel_rfl, fun a7 g W7 y7 zz7 hk hg hV hR hP => ?_⟩
  obtain ⟨-, -, -⟩ := hV
  replace e2 := (hR 2 rfl).trans e2
  replace e4 := (hR 4 rfl).trans e4
  replace own_b2_2 := own_keepL own_b2_2 hk nb_b2_2_4
  replace kw := keeps_app kw hk A_9_4.ge
  have A_w7 : Arr W7 w.heap.size 67 6 (SA w S (blks hd9_4 ++ (b2_2 :: []))) (List.map Mb.d (sortMb L)) (.slice v9_4a v9_4n v9_4c) hd9_4 := hP
  clear hR hk hg hP A_9_4
  have D_v9_4 : Rd W7 (SA w S [b2_2]) (mbsD (sortMb L)) (.slice v9_4a v9_4n v9_4c) := arrA_rd A_w7 (ls_skipA (ls_keep ls_nil)) (nin_cons nb_b2_2_4 nin_nil)
  obtain ⟨xa, xc, ev, D2⟩ := rdMbs_out D_v9_4
  injection ev with h1 h2 h3; subst h1 h2 h3; replace D_v9_4 := D2; clear D2
  refine tail_nil (hK6 _ _ ?_)
  refine wp_seq_k fun K8 hK8 => ?_
  refine rg mixed y7 zz7 ?_
  refine .i (v := (.agg #[(.int .u8 (5)), (.int .i64 (0)), (.string (⟨#[]⟩)), (.slice none 0 0), (.slice none 0 0)])) (sp_build (vs := [(0, (.int .u8 (5)))]) Try.underlying33 z33 (pl33 Try.underlying33) ⟨rfl, Has.cst, trivial⟩ rfl) ?_
  refine .alloc z33 ?_
  refine .done ⟨by kernel_rfl, fun a9 g W9 y9 zz9 hk hg hV hR hP => ?_⟩
  obtain ⟨⟨b5_9, e5, hb5, own_b5_9⟩, e12, -⟩ := hV
  have lo_b5_9 : w.heap.size ≤ b5_9 := Nat.le_trans kw.size (hg.lo _ _ hb5)
  have ne_b2_2_b5_9 : b2_2 ≠ b5_9 := Nat.ne_of_lt (Nat.lt_of_lt_of_le own_b2_2.lt (hg.lo _ _ hb5))
  have own_b5_9 : Own W9 b5_9 [(.int .u8 (0)), (.int .i64 (0)), (.string (⟨#[]⟩)), (.slice none 0 0), (.slice none 0 0)] 33 := own_b5_9
  replace e2 := (hR 2 rfl).trans e2
  replace e4 := (hR 4 rfl).trans e4
  replace D_v9_4 := sa_more D_v9_4 hk [b5_9] (in_cons (hg.lo _ _ hb5) in_nil)
  replace e12 := e12.q
  replace own_b2_2 := own_b2_2.ext hk
  replace kw := kw.x hk
  clear hR hk hg hP hb5
  refine tail_store (b := b5_9) (o := 0) (v := (.agg #[(.int .u8 (5)), (.int .i64 (0)), (.string (⟨#[]⟩)), (.slice none 0 0), (.slice none 0 0)])) e5 e12 sz33 rfl own_b5_9 (lbr rfl) (all_cons rfl (all_cons rfl (all_cons rfl (all_cons rfl (all_cons rfl all_nil))))) (fun W10 hs own_b5_9 => ?_)
  have own_b5_9 : Own W10 b5_9 [(.int .u8 (5)), (.int .i64 (0)), (.string (⟨#[]⟩)), (.slice none 0 0), (.slice none 0 0)] 33 := own_b5_9
  replace own_b2_2 := own_store own_b2_2 hs ne_b2_2_b5_9
  replace D_v9_4 := sa_store D_v9_4 hs (by simp)
  replace kw := keeps_store kw hs lo_b5_9
  clear hs
  refine tail_nil (hK8 _ _ ?_)
  refine wp_seq_k fun K11 hK11 => ?_
  refine wp_seq_k fun K12 hK12 => ?_
  refine rg mixed y9 zz9 ?_
  refine .i (sp_move (hbs rfl e4)) ?_
  refine .i (sp_lenL Try.underlying82 ((hlc rfl).dat D_v9_4 sub_all)) ?_
  refine .i (sp_move Has.cst) ?_
  refine .done ⟨by kernel_rfl, fun a13 g W13 y13 zz13 hk hg hV hR hP => ?_⟩
  obtain ⟨e15, e14, e13, -⟩ := hV
  replace e2 := (hR 2 rfl).trans e2
  replace e4 := (hR 4 rfl).trans e4
  replace e5 := (hR 5 rfl).trans e5
  replace D_v9_4 := D_v9_4.ext hk
  have e13 : sl a13 13 = (.slice v9_4a ((sortMb L).length) v9_4c) := e13
  have e14 : sl a13 14 = (.int .i64 ((sortMb L).length)) := e14
  have e15 : sl a13 15 = (.int .i64 (0)) := e15
  replace own_b2_2 := own_b2_2.ext hk
  replace own_b5_9 := own_b5_9.ext hk
  replace kw := kw.x hk
  clear hR hk hg hP
  refine tail_nil (hK12 _ _ ?_)
  refine wp_block ?_
  have A_ar14 : Arr W13 w.heap.size 9 1 (SF w (blks none ++ (b5_9 :: (b2_2 :: [])))) (List.map D.str ([])) (.slice none 0 0) none := arr_nil _ _ _ _ _
  replace D_v9_4 : Rd W13 (SA w S (blks none ++ (b5_9 :: (b2_2 :: [])))) (mbsD (sortMb L)) (.slice v9_4a ((sortMb L).length) v9_4c) := D_v9_4
  have A_ar15 : Arr W13 w.heap.size 33 5 (SF w (blks (none) ++ (blks none ++ (b5_9 :: (b2_2 :: []))))) (List.map V.d ([])) (.slice none 0 0) (none) := arr_nil _ _ _ _ _
  replace D_v9_4 : Rd W13 (SA w S (blks (none) ++ (blks none ++ (b5_9 :: (b2_2 :: []))))) (mbsD (sortMb L)) (.slice v9_4a ((sortMb L).length) v9_4c) := D_v9_4
  replace A_ar14 : Arr W13 w.heap.size 9 1 (SF w (blks (none) ++ (blks none ++ (b5_9 :: (b2_2 :: []))))) (List.map D.str ([])) (.slice none 0 0) none := A_ar14
  refine wp_for ((sortMb L).length) (fun k a W => ∃ (va3_16 : Value), ∃ (hd3_16 : Option Nat), ∃ (va4_16 : Value), ∃ (hd4_16 : Option Nat), a.tmps.size = 51 ∧ a.defers = [] ∧ Keeps All w W ∧ sl a 2 = (.pointer (some ⟨b2_2, 0, none⟩)) ∧ sl a 4 = (.slice v9_4a ((sortMb L).length) v9_4c) ∧ sl a 5 = (.pointer (some ⟨b5_9, 0, none⟩)) ∧ sl a 13 = (.slice v9_4a ((sortMb L).length) v9_4c) ∧ sl a 14 = (.int .i64 ((sortMb L).length)) ∧ sl a 15 = (.int .i64 ((k : Nat))) ∧ Own W b2_2 [(.int .u8 (0)), (.int .i64 (0)), (.string (⟨#[]⟩)), (.slice none 0 0), (.slice none 0 0)] 33 ∧ Own W b5_9 [(.int .u8 (5)), (.int .i64 (0)), (.string (⟨#[]⟩)), va3_16, va4_16] 33 ∧ Rd W (SA w S (blks hd4_16 ++ (blks hd3_16 ++ (b5_9 :: (b2_2 :: []))))) (mbsD (sortMb L)) (.slice v9_4a ((sortMb L).length) v9_4c) ∧ Arr W w.heap.size 9 1 (SF w (blks hd4_16 ++ (blks hd3_16 ++ (b5_9 :: (b2_2 :: []))))) (List.map D.str (List.map Mb.nm ((sortMb L).take k))) va3_16 hd3_16 ∧ b2_2 ∉ blks hd3_16 ∧ b5_9 ∉ blks hd3_16 ∧ Arr W w.heap.size 33 5 (SF w (blks hd4_16 ++ (blks hd3_16 ++ (b5_9 :: (b2_2 :: []))))) (List.map V.d (List.map Mb.v ((sortMb L).take k))) va4_16 hd4_16 ∧ b2_2 ∉ blks hd4_16 ∧ b5_9 ∉ blks hd4_16 ∧ (∀ b ∈ blks hd3_16, b ∉ blks hd4_16) ∧ (∀ i (h : i + 1 < (sortMb L).length), i + 1 < k → ((sortMb L)[i]).nm ≠ ((sortMb L)[i + 1]).nm)) ⟨(.slice none 0 0), none, (.slice none 0 0), (none), y13, zz13, kw, e2, e4, e5, e13, e14, (e15.trans (congrArg (Value.int .i64) (rfl))), own_b2_2, own_b5_9, D_v9_4, A_ar14, nb_none, nb_none, A_ar15, nb_none, nb_none, (fun _ _ => nb_none), fun i h hi => absurd hi (by omega)⟩ ?_
  clear kw e2 e4 e5 e13 e14 e15 own_b2_2 own_b5_9 D_v9_4 A_ar14 A_ar15
  rintro k a16 W16 hkk ⟨va3_16, hd3_16, va4_16, hd4_16, y16, zz16, kw, e2, e4, e5, e13, e14, e15, own_b2_2, own_b5_9, D_v9_4, A3_16, nb_b2_2_ar14_16, nb_b5_9_ar14_16, A4_16, nb_b2_2_ar15_16, nb_b5_9_ar15_16, dj_ar14_ar15_16, hinv⟩
  refine wp_seq_k fun K17 hK17 => ?_
  refine rg mixed y16 zz16 ?_
  refine .i (sp_lss (hbs rfl e15) (hbs rfl e14)) ?_
  refine .done ⟨by kernel_rfl, fun a18 g W18 y18 zz18 hk hg hV hR hP => ?_⟩
  obtain ⟨e16, -⟩ := hV
  replace e2 := (hR 2 rfl).trans e2
  replace e4 := (hR 4 rfl).trans e4
  replace e5 := (hR 5 rfl).trans e5
  replace e13 := (hR 13 rfl).trans e13
  replace e14 := (hR 14 rfl).trans e14
  replace e15 := (hR 15 rfl).trans e15
  replace A3_16 := A3_16.ext hk
  replace A4_16 := A4_16.ext hk
  replace D_v9_4 := D_v9_4.ext hk
  replace e16 := e16.q
  replace own_b2_2 := own_b2_2.ext hk
  replace own_b5_9 := own_b5_9.ext hk
  replace kw := kw.x hk
  clear hR hk hg hP
  refine tail_nil (hK17 _ _ ?_)
  refine wp_seq_k fun K19 hK19 => ?_
  refine wp_cond_split e16 (fun hc => ?_) (fun hc => ?_)
  ·
   have hlt : k < (sortMb L).length := by simpa using hc
   have hwm := hwS _ (List.getElem_mem hlt)
   refine wp_skip (hK19 _ _ ?_)
   refine wp_seq_k fun K20 hK20 => ?_
   refine wp_block ?_
   refine wp_seq_k fun K21 hK21 => ?_
   refine rg mixed y18 zz18 ?_
   refine .i (sp_move (hbs rfl e15)) ?_
   refine .rf (X := SA w S (blks hd4_16 ++ (blks hd3_16 ++ (b5_9 :: (b2_2 :: []))))) (e := Mb.d ((sortMb L)[k]'hlt)) (sp_indexL (i := k) ((hbs rfl e13).dat D_v9_4 sub_all) (hbs rfl e15) Try.underlying82 sz67 rfl hlt) ?_
   refine .da (X := SA w S (blks hd4_16 ++ (blks hd3_16 ++ (b5_9 :: (b2_2 :: []))))) (e := Mb.d ((sortMb L)[k]'hlt)) (sp_loadR (hlc rfl) agg67 sz67 (width_Mb _)) ?_
   refine .alloc z67 ?_
   refine .i (sp_assign (hlc rfl)) ?_
   refine .done ⟨by kernel_rfl, fun a22 g W22 y22 zz22 hk hg hV hR hP => ?_⟩
   obtain ⟨e6, ⟨b7_22, e7, hb7, own_b7_22⟩, e19, -, -, -⟩ := hV
   have lo_b7_22 : w.heap.size ≤ b7_22 := Nat.le_trans kw.size (hg.lo _ _ hb7)
   have ne_b2_2_b7_22 : b2_2 ≠ b7_22 := Nat.ne_of_lt (Nat.lt_of_lt_of_le own_b2_2.lt (hg.lo _ _ hb7))
   have ne_b5_9_b7_22 : b5_9 ≠ b7_22 := Nat.ne_of_lt (Nat.lt_of_lt_of_le own_b5_9.lt (hg.lo _ _ hb7))
   have own_b7_22 : Own W22 b7_22 [(.string (⟨#[]⟩)), (.int .u8 (0)), (.int .i64 (0)), (.string (⟨#[]⟩)), (.slice none 0 0), (.slice none 0 0)] 67 := own_b7_22
   replace e2 := (hR 2 rfl).trans e2
   replace e4 := (hR 4 rfl).trans e4
   replace e5 := (hR 5 rfl).trans e5
   replace e13 := (hR 13 rfl).trans e13
   replace e14 := (hR 14 rfl).trans e14
   replace e15 := (hR 15 rfl).trans e15
   have nb_b7_22_ar14 : b7_22 ∉ blks hd3_16 := nb_lt A3_16.lt (hg.lo _ _ hb7)
   replace A3_16 : Arr W22 w.heap.size 9 1 (SF w (b7_22 :: (blks hd4_16 ++ (blks hd3_16 ++ (b5_9 :: (b2_2 :: [])))))) (List.map D.str (List.map Mb.nm ((sortMb L).take k))) va3_16 hd3_16 := arrF_more A3_16 hk [b7_22] (in_cons (hg.lo _ _ hb7) in_nil)
   have nb_b7_22_ar15 : b7_22 ∉ blks hd4_16 := nb_lt A4_16.lt (hg.lo _ _ hb7)
   replace A4_16 : Arr W22 w.heap.size 33 5 (SF w (b7_22 :: (blks hd4_16 ++ (blks hd3_16 ++ (b5_9 :: (b2_2 :: [])))))) (List.map V.d (List.map Mb.v ((sortMb L).take k))) va4_16 hd4_16 := arrF_more A4_16 hk [b7_22] (in_cons (hg.lo _ _ hb7) in_nil)
   replace D_v9_4 : Rd W22 (SA w S (b7_22 :: (blks hd4_16 ++ (blks hd3_16 ++ (b5_9 :: (b2_2 :: [])))))) (mbsD (sortMb L)) (.slice v9_4a ((sortMb L).length) v9_4c) := sa_more D_v9_4 hk [b7_22] (in_cons (hg.lo _ _ hb7) in_nil)
   obtain ⟨v19_22, ev⟩ : ∃ v, sl a22 19 = v := ⟨_, rfl⟩
   rw [ev] at e19
   have D_v19_22 : Rd W22 (SA w S (b7_22 :: (blks hd4_16 ++ (blks hd3_16 ++ (b5_9 :: (b2_2 :: [])))))) (Mb.d ((sortMb L)[k]'hlt)) v19_22 := sa_end e19 hk [b7_22] (in_cons ⟨_, hb7⟩ in_nil)
   replace e19 := ev; clear ev
   obtain ⟨v19_22_4a, v19_22_4c, v19_22_5a, v19_22_5c, ev, hb_v19_22_0, hb_v19_22_3, D_v19_22_4, D_v19_22_5⟩ := rdMb_out D_v19_22
   subst ev; clear D_v19_22
   have e6 : sl a22 6 = (.int .i64 ((k : Nat))) := e6
   replace own_b2_2 := own_b2_2.ext hk
   replace own_b5_9 := own_b5_9.ext hk
   replace kw := kw.x hk
   clear hR hk hg hP hb7
   refine tail_store (b := b7_22) (o := 0) (v := (.agg #[(.string (((sortMb L)[k]'hlt).nm)), (.int .u8 (((sortMb L)[k]'hlt).v.k)), (.int .i64 (((sortMb L)[k]'hlt).v.n)), (.string (((sortMb L)[k]'hlt).v.t)), (.slice v19_22_4a ((((sortMb L)[k]'hlt).v.ns).length) v19_22_4c), (.slice v19_22_5a ((((sortMb L)[k]'hlt).v.xs).length) v19_22_5c)])) e7 e19 sz67 rfl own_b7_22 (lbr rfl) (all_cons rfl (all_cons rfl (all_cons rfl (all_cons rfl (all_cons rfl (all_cons rfl all_nil)))))) (fun W23 hs own_b7_22 => ?_)
   have own_b7_22 : Own W23 b7_22 [(.string (((sortMb L)[k]'hlt).nm)), (.int .u8 (((sortMb L)[k]'hlt).v.k)), (.int .i64 (((sortMb L)[k]'hlt).v.n)), (.string (((sortMb L)[k]'hlt).v.t)), (.slice v19_22_4a ((((sortMb L)[k]'hlt).v.ns).length) v19_22_4c), (.slice v19_22_5a ((((sortMb L)[k]'hlt).v.xs).length) v19_22_5c)] 67 := own_b7_22
   replace own_b2_2 := own_store own_b2_2 hs ne_b2_2_b7_22
   replace own_b5_9 := own_store own_b5_9 hs ne_b5_9_b7_22
   replace D_v9_4 := sa_store D_v9_4 hs (by simp)
   replace D_v19_22_4 := sa_store D_v19_22_4 hs (by simp)
   replace D_v19_22_5 := sa_store D_v19_22_5 hs (by simp)
   replace A3_16 := arrF_store A3_16 hs (by simp) nb_b7_22_ar14
   replace A4_16 := arrF_store A4_16 hs (by simp) nb_b7_22_ar15
   replace kw := keeps_store kw hs lo_b7_22
   clear hs
   refine tail_nil (hK21 _ _ ?_)
   refine wp_seq_k fun K24 hK24 => ?_
   refine wp_seq_k fun K25 hK25 => ?_
   refine rg mixed y22 zz22 ?_
   refine .i (sp_move (hbs rfl e6)) ?_
   refine .i (sp_gtr (hlc rfl) Has.cst) ?_
   refine .i (sp_move (hlc rfl)) ?_
   refine .e (t := 22) rfl (hlc rfl) (fun hg => sp_move (hbs rfl e4)) ?_
   refine .e (t := 22) rfl (hlc rfl) (fun hg => sp_move (hbs rfl e6)) ?_
   refine .e (t := 22) rfl (hlc rfl) (fun hg => sp_sub ((hlc rfl).undE hg) Has.cst (i64_in (by omega))) ?_
   refine .opE (t := 22) (φ := IsR (SA w S (b7_22 :: (blks hd4_16 ++ (blks hd3_16 ++ (b5_9 :: (b2_2 :: [])))))) (Mb.d ((sortMb L)[(k - 1)]'(by omega)))) rfl (hlc rfl) (st_r sub_all) (fun hg => sp_indexL (i := (k - 1)) (((hlc rfl).undE hg).dat D_v9_4 sub_all) ((hlc rfl).undE hg) Try.underlying82 sz67 (by have := of_decide_eq_true hg; omega) (by omega)) ?_
   refine .opE (t := 22) (φ := IsR (SA w S (b7_22 :: (blks hd4_16 ++ (blks hd3_16 ++ (b5_9 :: (b2_2 :: [])))))) (D.str (((sortMb L)[(k - 1)]'(by omega)).nm))) rfl (hlc rfl) (st_r sub_all) (fun hg => sp_fieldR ((hlc rfl).undE hg) Try.underlying67 rfl sz9 rfl (by first | rfl | simp [widths, width, hssD, width_V])) ?_
   refine .e (t := 22) rfl (hlc rfl) (fun hg => sp_loadStr ((hlc rfl).undE hg) agg9 sz9) ?_
   refine .e (t := 22) rfl (hlc rfl) (fun hg => fo 0 (hbs rfl e7) Try.underlying67 rfl sz9 rfl) ?_
   refine .e (t := 22) rfl (hlc rfl) (fun hg => lo1 ((hlc rfl).undE hg) own_b7_22 trivial agg9 sz9 rfl) ?_
   refine .e (t := 22) rfl (hlc rfl) (fun hg => sp_sEql ((hlc rfl).undE hg) ((hlc rfl).undE hg)) ?_
   refine .i (sp_and (hlc rfl) ((hlc rfl).weak fun hq => hq)) ?_
   refine .done ⟨by kernel_rfl, fun a26 g W26 y26 zz26 hk hg hV hR hP => ?_⟩
   obtain ⟨e32, -, -, -, -, -, -, -, -, -, -, -, -, -⟩ := hV
   replace e2 := (hR 2 rfl).trans e2
   replace e4 := (hR 4 rfl).trans e4
   replace e5 := (hR 5 rfl).trans e5
   replace e13 := (hR 13 rfl).trans e13
   replace e14 := (hR 14 rfl).trans e14
   replace e15 := (hR 15 rfl).trans e15
   replace e7 := (hR 7 rfl).trans e7
   replace A3_16 := A3_16.ext hk
   replace A4_16 := A4_16.ext hk
   replace D_v9_4 := D_v9_4.ext hk
   replace D_v19_22_4 := D_v19_22_4.ext hk
   replace D_v19_22_5 := D_v19_22_5.ext hk
   replace e32 := e32.q
   replace own_b2_2 := own_b2_2.ext hk
   replace own_b5_9 := own_b5_9.ext hk
   replace own_b7_22 := own_b7_22.ext hk
   replace kw := kw.x hk
   clear hR hk hg hP
   refine tail_nil (hK25 _ _ ?_)
   refine wp_cond_split e32 (fun hc => ?_) (fun hc => ?_)
   ·
    have hadj : adj (sortMb L) = true := by simp at hc; exact adj_true _ (k - 1) (by omega) (by simpa [Nat.sub_add_cancel (show 1 ≤ k by omega)] using hc.2)
    have hoe : objE L = 7 := by rw [objE, hadj]; rfl
    have hov : objM L = ⟨0, 0, ⟨#[]⟩, [], []⟩ := by rw [objM, hadj]; rfl
    refine wp_seq_k fun K27 hK27 => ?_
    refine rg mixed y26 zz26 ?_
    refine .i (v := (.agg #[(.int .u8 (0)), (.int .i64 (0)), (.string (⟨#[]⟩)), (.slice none 0 0), (.slice none 0 0)])) (sp_build (vs := []) Try.underlying33 z33 (pl33 Try.underlying33) trivial rfl) ?_
    refine .done ⟨by kernel_rfl, fun a28 g W28 y28 zz28 hk hg hV hR hP => ?_⟩
    obtain ⟨e33, -⟩ := hV
    replace e2 := (hR 2 rfl).trans e2
    replace A3_16 := A3_16.ext hk
    replace A4_16 := A4_16.ext hk
    replace D_v9_4 := D_v9_4.ext hk
    replace D_v19_22_4 := D_v19_22_4.ext hk
    replace D_v19_22_5 := D_v19_22_5.ext hk
    replace e33 := e33.q
    replace own_b2_2 := own_b2_2.ext hk
    replace own_b5_9 := own_b5_9.ext hk
    replace own_b7_22 := own_b7_22.ext hk
    replace kw := kw.x hk
    clear hR hk hg hP
    refine tail_store (b := b2_2) (o := 0) (v := (.agg #[(.int .u8 (0)), (.int .i64 (0)), (.string (⟨#[]⟩)), (.slice none 0 0), (.slice none 0 0)])) e2 e33 sz33 rfl own_b2_2 (lbr rfl) (all_cons rfl (all_cons rfl (all_cons rfl (all_cons rfl (all_cons rfl all_nil))))) (fun W29 hs own_b2_2 => ?_)
    have own_b2_2 : Own W29 b2_2 [(.int .u8 (0)), (.int .i64 (0)), (.string (⟨#[]⟩)), (.slice none 0 0), (.slice none 0 0)] 33 := own_b2_2
    replace own_b5_9 := own_store own_b5_9 hs ne_b2_2_b5_9.symm
    replace own_b7_22 := own_store own_b7_22 hs ne_b2_2_b7_22.symm
    replace D_v9_4 := sa_store D_v9_4 hs (by simp)
    replace D_v19_22_4 := sa_store D_v19_22_4 hs (by simp)
    replace D_v19_22_5 := sa_store D_v19_22_5 hs (by simp)
    replace A3_16 := arrF_store A3_16 hs (by simp) nb_b2_2_ar14_16
    replace A4_16 := arrF_store A4_16 hs (by simp) nb_b2_2_ar15_16
    replace kw := keeps_store kw hs lo_b2_2
    clear hs
    refine tail_assign (v := (.int .i64 (7))) rfl (by rw [y28]; exact Nat.le_of_ble_eq_true rfl) (fun a30 y30 zz30 e3 hr => ?_)
    replace y30 := y30.trans y28; replace zz30 := zz30.trans zz28
    replace e2 := (hr 2 (by decide)).trans e2
    replace e33 := (hr 33 (by decide)).trans e33
    clear hr
    refine tail_nil (hK27 _ _ ?_)
    refine wp_ret ?_
    refine (show bodyPost Try.prog Try.f38 _ .ret _ _ from retCT (v := (.agg #[(.int .u8 (0)), (.int .i64 (0)), (.string (⟨#[]⟩)), (.slice none 0 0), (.slice none 0 0)])) rfl zz30 e2 own_b2_2 agg33 sz33 rfl (fun h => by cases h) rfl e3 ⟨_, rfl, kw, ?_⟩)
    refine ⟨_, by rw [hoe], ?_⟩
    rw [hov]
    exact sf_fr (rdV_mk (lbr rfl) (rd_nil _) (rd_nil _) : Rd W29 (SF w (b7_22 :: (blks hd4_16 ++ (blks hd3_16 ++ (b5_9 :: (b2_2 :: [])))))) (V.d (V.mk (0) (0) (⟨#[]⟩) ([]) ([]))) _)
   ·
    have hk1 : 0 < k → ((sortMb L)[k - 1]).nm ≠ ((sortMb L)[k]).nm := by simp at hc; exact fun h => hc h
    refine wp_skip (hK24 _ _ ?_)
    refine wp_seq_k fun K31 hK31 => ?_
    refine wp_reg (fun k => k ∉ blks hd3_16) (Ψ := fun W => Arr W w.heap.size 9 1 (SF w (b7_22 :: (blks hd4_16 ++ (blks hd3_16 ++ (b5_9 :: (b2_2 :: [])))))) (List.map D.str (List.map Mb.nm ((sortMb L).take k))) va3_16 hd3_16) mixed y26 zz26 (fun W W' k h => h.ext k) A3_16 ?_
    refine .i (fo 3 (hbs rfl e5) Try.underlying33 rfl sz23 rfl) ?_
    refine .i (lo1 (hlc rfl) own_b5_9 nb_b5_9_ar14_16 agg23 sz23 rfl) ?_
    refine .i (fo 0 (hbs rfl e7) Try.underlying67 rfl sz9 rfl) ?_
    refine .i (lo1 (hlc rfl) own_b7_22 nb_b7_22_ar14 agg9 sz9 rfl) ?_
    refine .op (φ := IsD (SF w (b7_22 :: (blks hd4_16 ++ (blks hd3_16 ++ (b5_9 :: (b2_2 :: [])))))) (strsD ([((sortMb L)[k]'hlt).nm]))) (st_d (sub_nbF (fun b hb => List.mem_cons_of_mem _ (List.mem_append_right _ (List.mem_append_left _ hb))))) (sp_bsl (ds := [D.str (((sortMb L)[k]'hlt).nm)]) Try.underlying23 sz9 z9 (lbr rfl) (lbr rfl) ⟨rfl, ((hlc rfl).str hb_v19_22_0), trivial⟩ rfl (by simp [width]) (fr_sf kw (in_cons own_b7_22.lt (in_app A4_16.lt (in_app A3_16.lt (in_cons own_b5_9.lt (in_cons own_b2_2.lt in_nil))))))) ?_
    refine .appB (ds := List.map D.str (List.map Mb.nm ((sortMb L).take k))) (es := [D.str (((sortMb L)[k]'hlt).nm)]) (X := SF w (b7_22 :: (blks hd4_16 ++ (blks hd3_16 ++ (b5_9 :: (b2_2 :: [])))))) Try.underlying23 inf9 (lbr rfl) (hlc rfl) (hlc rfl) (sub_nbF (fun b hb => List.mem_cons_of_mem _ (List.mem_append_right _ (List.mem_append_left _ hb)))) (by simp [maxLen]; omega) (by simp; omega) kw.size ?_
    refine .i (fo 3 (hbs rfl e5) Try.underlying33 rfl sz23 rfl) ?_
    refine .done ⟨by kernel_rfl, fun a32 g W32 y32 zz32 hk hg hV hR hP => ?_⟩
    obtain ⟨e40, e39, -, -, -, -, -, -⟩ := hV
    replace e2 := (hR 2 rfl).trans e2
    replace e4 := (hR 4 rfl).trans e4
    replace e5 := (hR 5 rfl).trans e5
    replace e13 := (hR 13 rfl).trans e13
    replace e14 := (hR 14 rfl).trans e14
    replace e15 := (hR 15 rfl).trans e15
    replace e7 := (hR 7 rfl).trans e7
    obtain ⟨v39_32, ev⟩ : ∃ v, sl a32 39 = v := ⟨_, rfl⟩
    rw [ev] at e39
    obtain ⟨hd39_32, A_39_32, hf39_32⟩ := e39
    have e39 := ev; clear ev
    obtain ⟨v39_32a, v39_32n, v39_32c, ev⟩ := arr_sl A_39_32; subst ev
    replace A_39_32 := arrF_new (M' := (b7_22 :: (blks hd4_16 ++ (blks hd39_32 ++ (b5_9 :: (b2_2 :: [])))))) A_39_32 (rep_cons (rep_app rep_refl (rep_app (rep_q fun _ h => h) (rep_cons (rep_cons rep_nil)))))
    replace A_39_32 : Arr W32 w.heap.size 9 1 (SF w (b7_22 :: (blks hd4_16 ++ (blks hd39_32 ++ (b5_9 :: (b2_2 :: [])))))) (List.map D.str ((List.map Mb.nm ((sortMb L).take k)) ++ [((sortMb L)[k]'hlt).nm])) (.slice v39_32a v39_32n v39_32c) hd39_32 := by first | exact A_39_32 | (rw [List.map_append]; exact A_39_32)
    have nb_b2_2_32 : b2_2 ∉ blks hd39_32 := nb_new nb_b2_2_ar14_16 own_b2_2.lt hf39_32
    have nb_b5_9_32 : b5_9 ∉ blks hd39_32 := nb_new nb_b5_9_ar14_16 own_b5_9.lt hf39_32
    have nb_b7_22_32 : b7_22 ∉ blks hd39_32 := nb_new nb_b7_22_ar14 own_b7_22.lt hf39_32
    have dj_ar15_32 : ∀ b ∈ blks hd4_16, b ∉ blks hd39_32 := dj_new (dj_symm dj_ar14_ar15_16) A4_16.lt hf39_32
    replace A4_16 := arrF_app (M' := (b7_22 :: (blks hd4_16 ++ (blks hd39_32 ++ (b5_9 :: (b2_2 :: [])))))) A4_16 hk (fun b hb => List.mem_cons_of_mem _ (List.mem_append_right _ (List.mem_append_left _ hb))) (rep_cons (rep_app rep_refl (rep_app hf39_32 (rep_cons (rep_cons rep_nil))))) (dj_symm dj_ar14_ar15_16)
    replace D_v9_4 := sa_app (M' := (b7_22 :: (blks hd4_16 ++ (blks hd39_32 ++ (b5_9 :: (b2_2 :: [])))))) D_v9_4 hk (fun b hb => List.mem_cons_of_mem _ (List.mem_append_right _ (List.mem_append_left _ hb))) (rep_cons (rep_app rep_refl (rep_app hf39_32 (rep_cons (rep_cons rep_nil)))))
    replace D_v19_22_4 := sa_app (M' := (b7_22 :: (blks hd4_16 ++ (blks hd39_32 ++ (b5_9 :: (b2_2 :: [])))))) D_v19_22_4 hk (fun b hb => List.mem_cons_of_mem _ (List.mem_append_right _ (List.mem_append_left _ hb))) (rep_cons (rep_app rep_refl (rep_app hf39_32 (rep_cons (rep_cons rep_nil)))))
    replace D_v19_22_5 := sa_app (M' := (b7_22 :: (blks hd4_16 ++ (blks hd39_32 ++ (b5_9 :: (b2_2 :: [])))))) D_v19_22_5 hk (fun b hb => List.mem_cons_of_mem _ (List.mem_append_right _ (List.mem_append_left _ hb))) (rep_cons (rep_app rep_refl (rep_app hf39_32 (rep_cons (rep_cons rep_nil)))))
    replace own_b2_2 := own_app own_b2_2 hk nb_b2_2_ar14_16
    replace own_b5_9 := own_app own_b5_9 hk nb_b5_9_ar14_16
    replace own_b7_22 := own_app own_b7_22 hk nb_b7_22_ar14
    replace kw := keeps_app kw hk A3_16.ge
    have e40 : sl a32 40 = (.pointer (some ⟨b5_9, 3, none⟩)) := e40
    clear hR hk hg hP hf39_32 A3_16
    refine tail_store (b := b5_9) (o := 3) (v := (.slice v39_32a v39_32n v39_32c)) e40 e39 sz23 rfl own_b5_9 (lbr rfl) (all_cons rfl all_nil) (fun W33 hs own_b5_9 => ?_)
    have own_b5_9 : Own W33 b5_9 [(.int .u8 (5)), (.int .i64 (0)), (.string (⟨#[]⟩)), (.slice v39_32a v39_32n v39_32c), va4_16] 33 := own_b5_9
    replace own_b2_2 := own_store own_b2_2 hs ne_b2_2_b5_9
    replace own_b7_22 := own_store own_b7_22 hs ne_b5_9_b7_22.symm
    replace D_v9_4 := sa_store D_v9_4 hs (by simp)
    replace D_v19_22_4 := sa_store D_v19_22_4 hs (by simp)
    replace D_v19_22_5 := sa_store D_v19_22_5 hs (by simp)
    replace A_39_32 := arrF_store A_39_32 hs (by simp) nb_b5_9_32
    replace A4_16 := arrF_store A4_16 hs (by simp) nb_b5_9_ar15_16
    replace kw := keeps_store kw hs lo_b5_9
    clear hs
    refine tail_nil (hK31 _ _ ?_)
    refine wp_reg (fun k => k ∉ blks hd4_16) (Ψ := fun W => Arr W w.heap.size 33 5 (SF w (b7_22 :: (blks hd4_16 ++ (blks hd39_32 ++ (b5_9 :: (b2_2 :: [])))))) (List.map V.d (List.map Mb.v ((sortMb L).take k))) va4_16 hd4_16) mixed y32 zz32 (fun W W' k h => h.ext k) A4_16 ?_
    refine .i (fo 4 (hbs rfl e5) Try.underlying33 rfl sz31 rfl) ?_
    refine .i (lo1 (hlc rfl) own_b5_9 nb_b5_9_ar15_16 agg31 sz31 rfl) ?_
    refine .i (fo 1 (hbs rfl e7) Try.underlying67 rfl sz33 rfl) ?_
    refine .i (v := (.agg #[(.int .u8 (((sortMb L)[k]'hlt).v.k)), (.int .i64 (((sortMb L)[k]'hlt).v.n)), (.string (((sortMb L)[k]'hlt).v.t)), (.slice v19_22_4a ((((sortMb L)[k]'hlt).v.ns).length) v19_22_4c), (.slice v19_22_5a ((((sortMb L)[k]'hlt).v.xs).length) v19_22_5c)])) (loA (hlc rfl) own_b7_22 nb_b7_22_ar15 agg33 sz33 rfl rfl) ?_
    refine .op (φ := IsD (Fr W33) (V.d (((sortMb L)[k]'hlt).v))) (st_d (sub_frnb (fun b hb => A4_16.lt b hb))) (sp_call1 (φ1 := IsD (SA w S (b7_22 :: (blks hd4_16 ++ (blks hd39_32 ++ (b5_9 :: (b2_2 :: [])))))) (V.d (((sortMb L)[k]'hlt).v))) ent79 ((hlc rfl).dat (rdV_in (x := ((sortMb L)[k]'hlt).v) hb_v19_22_3 D_v19_22_4 D_v19_22_5 : Rd W33 (SA w S (b7_22 :: (blks hd4_16 ++ (blks hd39_32 ++ (b5_9 :: (b2_2 :: [])))))) (V.d (((sortMb L)[k]'hlt).v)) _) (sub_nb (fun b hb => List.mem_cons_of_mem _ (List.mem_append_left _ hb)))) (fun g u1 W hk hgk h1 => (Copy_ok (((sortMb L)[k]'hlt).v) (by first | omega | exact Nat.le_of_ble_eq_true (by kernel_rfl)) W _ _ (fun b o h => sa_cln hS b o h.1) h1).mono (ret_fr hk hgk))) ?_
    refine .op (φ := IsD (SF w (b7_22 :: (blks hd4_16 ++ (blks hd39_32 ++ (b5_9 :: (b2_2 :: [])))))) (valsD ([((sortMb L)[k]'hlt).v]))) (st_d (sub_nbF (fun b hb => List.mem_cons_of_mem _ (List.mem_append_left _ hb)))) (sp_bsl (ds := [V.d (((sortMb L)[k]'hlt).v)]) Try.underlying31 sz33 z33 (lbr rfl) (lbr rfl) ⟨rfl, ((hlc rfl).sup (fr_sf kw (in_cons own_b7_22.lt (in_app A4_16.lt (in_app A_39_32.lt (in_cons own_b5_9.lt (in_cons own_b2_2.lt in_nil))))))), trivial⟩ rfl (by intro e he; simp at he; rcases he with rfl <;> exact width_V _) (fr_sf kw (in_cons own_b7_22.lt (in_app A4_16.lt (in_app A_39_32.lt (in_cons own_b5_9.lt (in_cons own_b2_2.lt in_nil))))))) ?_
    refine .appB (ds := List.map V.d (List.map Mb.v ((sortMb L).take k))) (es := [V.d (((sortMb L)[k]'hlt).v)]) (X := SF w (b7_22 :: (blks hd4_16 ++ (blks hd39_32 ++ (b5_9 :: (b2_2 :: [])))))) Try.underlying31 inf33 (lbr rfl) (hlc rfl) (hlc rfl) (sub_nbF (fun b hb => List.mem_cons_of_mem _ (List.mem_append_left _ hb))) (by simp [maxLen]; omega) (by simp; omega) kw.size ?_
    refine .i (fo 4 (hbs rfl e5) Try.underlying33 rfl sz31 rfl) ?_
    refine .done ⟨by kernel_rfl, fun a34 g W34 y34 zz34 hk hg hV hR hP => ?_⟩
    obtain ⟨e48, e47, -, -, -, -, -, -, -⟩ := hV
    replace e2 := (hR 2 rfl).trans e2
    replace e4 := (hR 4 rfl).trans e4
    replace e5 := (hR 5 rfl).trans e5
    replace e13 := (hR 13 rfl).trans e13
    replace e14 := (hR 14 rfl).trans e14
    replace e15 := (hR 15 rfl).trans e15
    obtain ⟨v47_34, ev⟩ : ∃ v, sl a34 47 = v := ⟨_, rfl⟩
    rw [ev] at e47
    obtain ⟨hd47_34, A_47_34, hf47_34⟩ := e47
    have e47 := ev; clear ev
    obtain ⟨v47_34a, v47_34n, v47_34c, ev⟩ := arr_sl A_47_34; subst ev
    replace A_47_34 := arrF_new (M' := (b7_22 :: (blks hd47_34 ++ (blks hd39_32 ++ (b5_9 :: (b2_2 :: [])))))) A_47_34 (rep_cons (rep_app (rep_q fun _ h => h) (rep_app rep_refl (rep_cons (rep_cons rep_nil)))))
    replace A_47_34 : Arr W34 w.heap.size 33 5 (SF w (b7_22 :: (blks hd47_34 ++ (blks hd39_32 ++ (b5_9 :: (b2_2 :: [])))))) (List.map V.d ((List.map Mb.v ((sortMb L).take k)) ++ [((sortMb L)[k]'hlt).v])) (.slice v47_34a v47_34n v47_34c) hd47_34 := by first | exact A_47_34 | (rw [List.map_append]; exact A_47_34)
    have nb_b2_2_34 : b2_2 ∉ blks hd47_34 := nb_new nb_b2_2_ar15_16 own_b2_2.lt hf47_34
    have nb_b5_9_34 : b5_9 ∉ blks hd47_34 := nb_new nb_b5_9_ar15_16 own_b5_9.lt hf47_34
    have nb_b7_22_34 : b7_22 ∉ blks hd47_34 := nb_new nb_b7_22_ar15 own_b7_22.lt hf47_34
    have dj_ar14_34 : ∀ b ∈ blks hd39_32, b ∉ blks hd47_34 := dj_new (dj_symm dj_ar15_32) A_39_32.lt hf47_34
    replace A_39_32 := arrF_app (M' := (b7_22 :: (blks hd47_34 ++ (blks hd39_32 ++ (b5_9 :: (b2_2 :: [])))))) A_39_32 hk (fun b hb => List.mem_cons_of_mem _ (List.mem_append_left _ hb)) (rep_cons (rep_app hf47_34 (rep_app rep_refl (rep_cons (rep_cons rep_nil))))) (dj_symm dj_ar15_32)
    replace D_v9_4 := sa_app (M' := (b7_22 :: (blks hd47_34 ++ (blks hd39_32 ++ (b5_9 :: (b2_2 :: [])))))) D_v9_4 hk (fun b hb => List.mem_cons_of_mem _ (List.mem_append_left _ hb)) (rep_cons (rep_app hf47_34 (rep_app rep_refl (rep_cons (rep_cons rep_nil)))))
    replace D_v19_22_4 := sa_app (M' := (b7_22 :: (blks hd47_34 ++ (blks hd39_32 ++ (b5_9 :: (b2_2 :: [])))))) D_v19_22_4 hk (fun b hb => List.mem_cons_of_mem _ (List.mem_append_left _ hb)) (rep_cons (rep_app hf47_34 (rep_app rep_refl (rep_cons (rep_cons rep_nil)))))
    replace D_v19_22_5 := sa_app (M' := (b7_22 :: (blks hd47_34 ++ (blks hd39_32 ++ (b5_9 :: (b2_2 :: [])))))) D_v19_22_5 hk (fun b hb => List.mem_cons_of_mem _ (List.mem_append_left _ hb)) (rep_cons (rep_app hf47_34 (rep_app rep_refl (rep_cons (rep_cons rep_nil)))))
    replace own_b2_2 := own_app own_b2_2 hk nb_b2_2_ar15_16
    replace own_b5_9 := own_app own_b5_9 hk nb_b5_9_ar15_16
    replace own_b7_22 := own_app own_b7_22 hk nb_b7_22_ar15
    replace kw := keeps_app kw hk A4_16.ge
    have e48 : sl a34 48 = (.pointer (some ⟨b5_9, 4, none⟩)) := e48
    clear hR hk hg hP hf47_34 A4_16
    refine tail_store (b := b5_9) (o := 4) (v := (.slice v47_34a v47_34n v47_34c)) e48 e47 sz31 rfl own_b5_9 (lbr rfl) (all_cons rfl all_nil) (fun W35 hs own_b5_9 => ?_)
    have own_b5_9 : Own W35 b5_9 [(.int .u8 (5)), (.int .i64 (0)), (.string (⟨#[]⟩)), (.slice v39_32a v39_32n v39_32c), (.slice v47_34a v47_34n v47_34c)] 33 := own_b5_9
    replace own_b2_2 := own_store own_b2_2 hs ne_b2_2_b5_9
    replace own_b7_22 := own_store own_b7_22 hs ne_b5_9_b7_22.symm
    replace D_v9_4 := sa_store D_v9_4 hs (by simp)
    replace D_v19_22_4 := sa_store D_v19_22_4 hs (by simp)
    replace D_v19_22_5 := sa_store D_v19_22_5 hs (by simp)
    replace A_39_32 := arrF_store A_39_32 hs (by simp) nb_b5_9_32
    replace A_47_34 := arrF_store A_47_34 hs (by simp) nb_b5_9_34
    replace kw := keeps_store kw hs lo_b5_9
    clear hs
    refine tail_nil (hK20 _ _ ?_)
    refine rg mixed y34 zz34 ?_
    refine .i (sp_add (hbs rfl e15) Has.cst (i64_in (by omega))) ?_
    refine .i (sp_move (hlc rfl)) ?_
    refine .done ⟨by kernel_rfl, fun a36 g W36 y36 zz36 hk hg hV hR hP => ?_⟩
    obtain ⟨e15, -, -⟩ := hV
    replace e2 := (hR 2 rfl).trans e2
    replace e4 := (hR 4 rfl).trans e4
    replace e5 := (hR 5 rfl).trans e5
    replace e13 := (hR 13 rfl).trans e13
    replace e14 := (hR 14 rfl).trans e14
    replace A_39_32 := A_39_32.ext hk
    replace A_47_34 := A_47_34.ext hk
    replace D_v9_4 := D_v9_4.ext hk
    replace e15 := e15.q
    replace own_b2_2 := own_b2_2.ext hk
    replace own_b5_9 := own_b5_9.ext hk
    replace own_b7_22 := own_b7_22.ext hk
    replace kw := kw.x hk
    clear hR hk hg hP
    rw [show (List.map Mb.nm ((sortMb L).take k)) ++ [((sortMb L)[k]'hlt).nm] = List.map Mb.nm ((sortMb L).take (k + 1)) by rw [List.take_succ_eq_append_getElem hlt, List.map_append]; rfl] at A_39_32
    rw [show (List.map Mb.v ((sortMb L).take k)) ++ [((sortMb L)[k]'hlt).v] = List.map Mb.v ((sortMb L).take (k + 1)) by rw [List.take_succ_eq_append_getElem hlt, List.map_append]; rfl] at A_47_34
    exact tail_nil ⟨hlt, (.slice v39_32a v39_32n v39_32c), hd39_32, (.slice v47_34a v47_34n v47_34c), hd47_34, y36, zz36, kw, e2, e4, e5, e13, e14, (e15.trans (congrArg (Value.int .i64) (by simp))), own_b2_2, own_b5_9, (sa_less D_v9_4 (ls_skip (ls_keepA (ls_keepA (ls_keep (ls_keep ls_nil)))))), (arrF_less A_39_32 (ls_skip (ls_keepA (ls_keepA (ls_keep (ls_keep ls_nil)))))), nb_b2_2_32, nb_b5_9_32, (arrF_less A_47_34 (ls_skip (ls_keepA (ls_keepA (ls_keep (ls_keep ls_nil)))))), nb_b2_2_34, nb_b5_9_34, dj_ar14_34, fun i h hi => by rcases Nat.lt_succ_iff_lt_or_eq.1 hi with h1 | h1; exact hinv i h h1; subst h1; exact hk1 (by omega)⟩
  ·
   have hge0 : ¬ k < (sortMb L).length := by simpa using hc
   have hge : k = (sortMb L).length := by omega
   have hadj : adj (sortMb L) = false := adj_false _ fun i h => hinv i h (by omega)
   have hoe : objE L = 0 := by rw [objE, hadj]; rfl
   have hov : objM L = ⟨5, 0, ⟨#[]⟩, (sortMb L).map Mb.nm, (sortMb L).map Mb.v⟩ := by rw [objM, hadj]; rfl
   rw [show List.map Mb.nm ((sortMb L).take k) = List.map Mb.nm (sortMb L) by rw [hge, List.take_length]] at A3_16
   have D_va3_16 : Rd W18 (SF w (blks hd4_16 ++ (b5_9 :: (b2_2 :: [])))) (strsD (List.map Mb.nm (sortMb L))) va3_16 := arrF_rd A3_16 (ls_keepA (ls_skipA (ls_keep (ls_keep ls_nil)))) (nin_app dj_ar14_ar15_16 (nin_cons nb_b5_9_ar14_16 (nin_cons nb_b2_2_ar14_16 nin_nil)))
   obtain ⟨va3_16a, va3_16c, ev, D2⟩ := rdS_out D_va3_16
   subst ev; replace D_va3_16 := D2; clear D2
   replace D_v9_4 := sa_less (M' := (blks hd4_16 ++ (b5_9 :: (b2_2 :: [])))) D_v9_4 (ls_keepA (ls_skipA (ls_keep (ls_keep ls_nil))))
   replace A4_16 := arrF_less (M' := (blks hd4_16 ++ (b5_9 :: (b2_2 :: [])))) A4_16 (ls_keepA (ls_skipA (ls_keep (ls_keep ls_nil))))
   rw [show List.map Mb.v ((sortMb L).take k) = List.map Mb.v (sortMb L) by rw [hge, List.take_length]] at A4_16
   have D_va4_16 : Rd W18 (SF w [b5_9, b2_2]) (valsD (List.map Mb.v (sortMb L))) va4_16 := arrF_rd A4_16 (ls_skipA (ls_keep (ls_keep ls_nil))) (nin_cons nb_b5_9_ar15_16 (nin_cons nb_b2_2_ar15_16 nin_nil))
   obtain ⟨va4_16a, va4_16c, ev, D2⟩ := rdVs_out D_va4_16
   subst ev; replace D_va4_16 := D2; clear D2
   replace D_v9_4 := sa_less (M' := [b5_9, b2_2]) D_v9_4 (ls_skipA (ls_keep (ls_keep ls_nil)))
   replace D_va3_16 := sf_less (M' := [b5_9, b2_2]) D_va3_16 (ls_skipA (ls_keep (ls_keep ls_nil)))
   refine wp_exit (hK11 _ _ ?_)
   refine wp_seq_k fun K37 hK37 => ?_
   refine rg mixed y18 zz18 ?_
   refine .i (v := (.agg #[(.int .u8 (5)), (.int .i64 (0)), (.string (⟨#[]⟩)), (.slice va3_16a ((List.map Mb.nm (sortMb L)).length) va3_16c), (.slice va4_16a ((List.map Mb.v (sortMb L)).length) va4_16c)])) (loA (hbs rfl e5) own_b5_9 trivial agg33 sz33 rfl rfl) ?_
   refine .done ⟨by kernel_rfl, fun a38 g W38 y38 zz38 hk hg hV hR hP => ?_⟩
   obtain ⟨e50, -⟩ := hV
   replace e2 := (hR 2 rfl).trans e2
   replace D_v9_4 := D_v9_4.ext hk
   replace D_va3_16 := D_va3_16.ext hk
   replace D_va4_16 := D_va4_16.ext hk
   replace e50 := e50.q
   replace own_b2_2 := own_b2_2.ext hk
   replace own_b5_9 := own_b5_9.ext hk
   replace kw := kw.x hk
   clear hR hk hg hP
   refine tail_store (b := b2_2) (o := 0) (v := (.agg #[(.int .u8 (5)), (.int .i64 (0)), (.string (⟨#[]⟩)), (.slice va3_16a ((List.map Mb.nm (sortMb L)).length) va3_16c), (.slice va4_16a ((List.map Mb.v (sortMb L)).length) va4_16c)])) e2 e50 sz33 rfl own_b2_2 (lbr rfl) (all_cons rfl (all_cons rfl (all_cons rfl (all_cons rfl (all_cons rfl all_nil))))) (fun W39 hs own_b2_2 => ?_)
   have own_b2_2 : Own W39 b2_2 [(.int .u8 (5)), (.int .i64 (0)), (.string (⟨#[]⟩)), (.slice va3_16a ((List.map Mb.nm (sortMb L)).length) va3_16c), (.slice va4_16a ((List.map Mb.v (sortMb L)).length) va4_16c)] 33 := own_b2_2
   replace own_b5_9 := own_store own_b5_9 hs ne_b2_2_b5_9.symm
   replace D_v9_4 := sa_store D_v9_4 hs (by simp)
   replace D_va3_16 := sf_store D_va3_16 hs (by simp)
   replace D_va4_16 := sf_store D_va4_16 hs (by simp)
   replace kw := keeps_store kw hs lo_b2_2
   clear hs
   refine tail_assign (v := (.int .i64 (0))) rfl (by rw [y38]; exact Nat.le_of_ble_eq_true rfl) (fun a40 y40 zz40 e3 hr => ?_)
   replace y40 := y40.trans y38; replace zz40 := zz40.trans zz38
   replace e2 := (hr 2 (by decide)).trans e2
   replace e50 := (hr 50 (by decide)).trans e50
   clear hr
   refine tail_nil (hK37 _ _ ?_)
   refine wp_ret ?_
   refine (show bodyPost Try.prog Try.f38 _ .ret _ _ from retCT (v := (.agg #[(.int .u8 (5)), (.int .i64 (0)), (.string (⟨#[]⟩)), (.slice va3_16a ((List.map Mb.nm (sortMb L)).length) va3_16c), (.slice va4_16a ((List.map Mb.v (sortMb L)).length) va4_16c)])) rfl zz40 e2 own_b2_2 agg33 sz33 rfl (fun h => by cases h) rfl e3 ⟨_, rfl, kw, ?_⟩)
   refine ⟨_, by rw [hoe], ?_⟩
   rw [hov]
   exact sf_fr (rdV_mk (lbr rfl) D_va3_16 D_va4_16 : Rd W39 (SF w [b5_9, b2_2]) (V.d (V.mk (5) (0) (⟨#[]⟩) (List.map Mb.nm (sortMb L)) (List.map Mb.v (sortMb L)))) _)
end Go.Proofs.Ytnobijngkpflcaa
namespace Go.Eng
def numVv (n : Int) : V := V.mk 2 n ⟨#[]⟩ [] []
end Go.Eng
namespace Go.Eng
theorem rdl_at {W : World} {X : BSet} {b sz : Nat} : ∀ (ds : List D) (o i : Nat) (hi : i < ds.length), RdL W X b sz ds o → ∃ cs, RdC W X ds[i] cs
  | [], _, i, hi, _ => by simp at hi
  | d :: ds, o, 0, _, h => by simp only [RdL] at h; obtain ⟨⟨cs, _, _, h2⟩, _⟩ := h; exact ⟨cs, h2⟩
  | d :: ds, o, i + 1, hi, h => by simp only [RdL] at h; exact rdl_at ds _ i (by simpa using hi) h.2
end Go.Eng
namespace Go.Eng
def kiN : ByteArray := ⟨#[107, 101, 121, 105, 100, 115]⟩
def thN : ByteArray := ⟨#[116, 104, 114, 101, 115, 104, 111, 108, 100]⟩
def authL (a : Au) : List Mb := [⟨kiN, txtsV a.ids⟩, ⟨thN, numVv a.th⟩]
def valE (a : Au) : Int := if mayA a then 0 else 3
def valV (a : Au) : V := if mayA a then objV a.th a.ids else ⟨0, 0, ⟨#[]⟩, [], []⟩
theorem authL_M (a : Au) : objM (authL a) = objV a.th a.ids := by kernel_rfl
theorem authL_E (a : Au) : objE (authL a) = 0 := by kernel_rfl
theorem wrongE_dig : ∀ (ids seen : List ByteArray), wrongE seen ids = 0 → ∀ s ∈ ids, digB s = true
  | [], _, _, s, hs => by simp at hs
  | a :: r, seen, h, s, hs => by
    rw [wrongE] at h
    split at h
    · cases h
    · rename_i hd
      split at h
      · cases h
      · rcases List.mem_cons.1 hs with rfl | hs
        · simpa using hd
        · exact wrongE_dig r _ h s hs
theorem mayA_out {a : Au} (h : mayA a = true) : 1 ≤ a.ids.length ∧ a.ids.length ≤ 16 ∧ 1 ≤ a.th ∧ a.th ≤ a.ids.length ∧ wrongE [] a.ids = 0 := by
  unfold mayA at h
  split at h
  · cases h
  · rename_i hn
    refine ⟨by omega, by omega, by omega, by omega, by simpa using h⟩
theorem txts_wt : ∀ (ids : List ByteArray), (∀ s ∈ ids, s.size ≤ 64) → V.wts (ids.map txtV) ≤ 65 * ids.length
  | [], _ => by simp [V.wts]
  | s :: r, h => by
    have h1 := txts_wt r fun x hx => h x (List.mem_cons_of_mem _ hx)
    have h2 := h s List.mem_cons_self
    have h3 : (txtV s).wt = 1 + s.size := by rw [wt_eq]; simp [txtV, V.t, V.ns, V.xs, wtN, V.wts]
    simp only [List.map_cons, V.wts, List.length_cons, h3]
    omega
theorem txtsV_wt {a : Au} (h : mayA a = true) : (txtsV a.ids).wt ≤ 2000 := by
  obtain ⟨h1, h2, h3, h4, h5⟩ := mayA_out h
  have hw := txts_wt a.ids fun s hs => by
    have := wrongE_dig a.ids [] h5 s hs
    simp [digB] at this
    omega
  rw [wt_eq]
  show 1 + (ByteArray.size ⟨#[]⟩) + wtN [] + V.wts (a.ids.map txtV) ≤ 2000
  have h0 : ByteArray.size ⟨#[]⟩ = 0 := rfl
  have h6 : wtN [] = 0 := rfl
  omega
theorem objV_wt {a : Au} (h : mayA a = true) : (objV a.th a.ids).wt ≤ 1073741824 := by
  have h1 := txtsV_wt h
  rw [wt_eq]
  have h2 : wtN (objV a.th a.ids).ns ≤ 100 := by
    have : wtN (objV a.th a.ids).ns = 17 := by kernel_rfl
    omega
  have h3 : V.wts (objV a.th a.ids).xs = (txtsV a.ids).wt + ((V.mk 2 a.th ⟨#[]⟩ [] []).wt + 0) := rfl
  have h4 : (V.mk 2 a.th ⟨#[]⟩ [] []).wt = 1 := rfl
  have h5 : (objV a.th a.ids).t.size = 0 := rfl
  omega
end Go.Eng
namespace Go.Eng
def AnyS : BSet := fun _ _ => True
theorem arr_rdU {W : World} {lo : Nat} {e : TypeId} {sz : Nat} {X : BSet} {ds : List D} {v : Value} {hd : Option Nat} (h : Arr W lo e sz X ds v hd) : Rd W AnyS (.lst sz ds) v := arr_rd h (fun _ _ _ _ => trivial) (fun _ _ _ _ _ => trivial)
end Go.Eng
namespace Go.Proofs.Ytnobijngkpflcaa
open Go.Eng
set_option maxRecDepth 100000 in
theorem pkTexts_ok (ns : List ByteArray) (hn : ns.length ≤ 1073741824) (w : World) (S : BSet) (v : Value) (hv : Rd w S (strsD ns) v) : Calls Try.prog 113 #[v] w (Ret w fun u W => Rd W (Fr w) (txtsV ns).d u) := by
  obtain ⟨va, vc, ev, D_v⟩ := rdS_out (rd_arg hv)
  subst ev
  refine enter Try.func113 rfl Try.ntmps113 (lbr rfl) fun a0 y0 zz0 harg => ?_
  have e0 : sl a0 0 = (.slice va (ns.length) vc) := harg 0 (lbr rfl)
  have kw := Keeps.refl All w
  clear harg
  refine wp_seq_k fun K1 hK1 => ?_
  refine rg mixed y0 zz0 ?_
  refine .alloc z33 ?_
  refine .done ⟨by kernel_rfl, fun a2 g W2 y2 zz2 hk hg hV hR hP => ?_⟩
  obtain ⟨⟨b2_2, e2, hb2, own_b2_2⟩, -⟩ := hV
  have lo_b2_2 : w.heap.size ≤ b2_2 := Nat.le_trans kw.size (hg.lo _ _ hb2)
  have own_b2_2 : Own W2 b2_2 [(.int .u8 (0)), (.int .i64 (0)), (.string (⟨#[]⟩)), (.slice none 0 0), (.slice none 0 0)] 33 := own_b2_2
  replace e0 := (hR 0 rfl).trans e0
  replace D_v := sa_more D_v hk [b2_2] (in_cons (hg.lo _ _ hb2) in_nil)
  replace kw := kw.x hk
  clear hR hk hg hP hb2
  refine tail_nil (hK1 _ _ ?_)
  refine wp_seq_k fun K3 hK3 => ?_
  refine rg mixed y2 zz2 ?_
  refine .i (v := (.agg #[(.int .u8 (4)), (.int .i64 (0)), (.string (⟨#[]⟩)), (.slice none 0 0), (.slice none 0 0)])) (sp_build (vs := [(0, (.int .u8 (4)))]) Try.underlying33 z33 (pl33 Try.underlying33) ⟨rfl, Has.cst, trivial⟩ rfl) ?_
  refine .alloc z33 ?_
  refine .done ⟨by kernel_rfl, fun a4 g W4 y4 zz4 hk hg hV hR hP => ?_⟩
  obtain ⟨⟨b3_4, e3, hb3, own_b3_4⟩, e6, -⟩ := hV
  have lo_b3_4 : w.heap.size ≤ b3_4 := Nat.le_trans kw.size (hg.lo _ _ hb3)
  have ne_b2_2_b3_4 : b2_2 ≠ b3_4 := Nat.ne_of_lt (Nat.lt_of_lt_of_le own_b2_2.lt (hg.lo _ _ hb3))
  have own_b3_4 : Own W4 b3_4 [(.int .u8 (0)), (.int .i64 (0)), (.string (⟨#[]⟩)), (.slice none 0 0), (.slice none 0 0)] 33 := own_b3_4
  replace e0 := (hR 0 rfl).trans e0
  replace e2 := (hR 2 rfl).trans e2
  replace D_v := sa_more D_v hk [b3_4] (in_cons (hg.lo _ _ hb3) in_nil)
  replace e6 := e6.q
  replace own_b2_2 := own_b2_2.ext hk
  replace kw := kw.x hk
  clear hR hk hg hP hb3
  refine tail_store (b := b3_4) (o := 0) (v := (.agg #[(.int .u8 (4)), (.int .i64 (0)), (.string (⟨#[]⟩)), (.slice none 0 0), (.slice none 0 0)])) e3 e6 sz33 rfl own_b3_4 (lbr rfl) (all_cons rfl (all_cons rfl (all_cons rfl (all_cons rfl (all_cons rfl all_nil))))) (fun W5 hs own_b3_4 => ?_)
  have own_b3_4 : Own W5 b3_4 [(.int .u8 (4)), (.int .i64 (0)), (.string (⟨#[]⟩)), (.slice none 0 0), (.slice none 0 0)] 33 := own_b3_4
  replace own_b2_2 := own_store own_b2_2 hs ne_b2_2_b3_4
  replace D_v := sa_store D_v hs (by simp)
  replace kw := keeps_store kw hs lo_b3_4
  clear hs
  refine tail_nil (hK3 _ _ ?_)
  refine wp_seq_k fun K6 hK6 => ?_
  refine wp_seq_k fun K7 hK7 => ?_
  refine rg mixed y4 zz4 ?_
  refine .i (sp_move (hbs rfl e0)) ?_
  refine .i (sp_lenSs Try.underlying23 ((hlc rfl).dat D_v sub_all)) ?_
  refine .i (sp_move Has.cst) ?_
  refine .done ⟨by kernel_rfl, fun a8 g W8 y8 zz8 hk hg hV hR hP => ?_⟩
  obtain ⟨e9, e8, e7, -⟩ := hV
  replace e2 := (hR 2 rfl).trans e2
  replace e3 := (hR 3 rfl).trans e3
  replace D_v := D_v.ext hk
  have e7 : sl a8 7 = (.slice va (ns.length) vc) := e7
  have e8 : sl a8 8 = (.int .i64 (ns.length)) := e8
  have e9 : sl a8 9 = (.int .i64 (0)) := e9
  replace own_b2_2 := own_b2_2.ext hk
  replace own_b3_4 := own_b3_4.ext hk
  replace kw := kw.x hk
  clear hR hk hg hP
  refine tail_nil (hK7 _ _ ?_)
  refine wp_block ?_
  have A_ar9 : Arr W8 w.heap.size 33 5 (SF w (blks none ++ (b3_4 :: (b2_2 :: [])))) (List.map V.d ([])) (.slice none 0 0) none := arr_nil _ _ _ _ _
  replace D_v : Rd W8 (SA w S (blks none ++ (b3_4 :: (b2_2 :: [])))) (strsD (ns)) (.slice va (ns.length) vc) := D_v
  refine wp_for (ns.length) (fun k a W => ∃ (va4_10 : Value), ∃ (hd4_10 : Option Nat), a.tmps.size = 22 ∧ a.defers = [] ∧ Keeps All w W ∧ sl a 2 = (.pointer (some ⟨b2_2, 0, none⟩)) ∧ sl a 3 = (.pointer (some ⟨b3_4, 0, none⟩)) ∧ sl a 7 = (.slice va (ns.length) vc) ∧ sl a 8 = (.int .i64 (ns.length)) ∧ sl a 9 = (.int .i64 ((k : Nat))) ∧ Own W b2_2 [(.int .u8 (0)), (.int .i64 (0)), (.string (⟨#[]⟩)), (.slice none 0 0), (.slice none 0 0)] 33 ∧ Own W b3_4 [(.int .u8 (4)), (.int .i64 (0)), (.string (⟨#[]⟩)), (.slice none 0 0), va4_10] 33 ∧ Rd W (SA w S (blks hd4_10 ++ (b3_4 :: (b2_2 :: [])))) (strsD (ns)) (.slice va (ns.length) vc) ∧ Arr W w.heap.size 33 5 (SF w (blks hd4_10 ++ (b3_4 :: (b2_2 :: [])))) (List.map V.d (List.map txtV (ns.take k))) va4_10 hd4_10 ∧ b2_2 ∉ blks hd4_10 ∧ b3_4 ∉ blks hd4_10) ⟨(.slice none 0 0), none, y8, zz8, kw, e2, e3, e7, e8, (e9.trans (congrArg (Value.int .i64) (rfl))), own_b2_2, own_b3_4, D_v, A_ar9, nb_none, nb_none⟩ ?_
  clear kw e2 e3 e7 e8 e9 own_b2_2 own_b3_4 D_v A_ar9
  rintro k a10 W10 hkk ⟨va4_10, hd4_10, y10, zz10, kw, e2, e3, e7, e8, e9, own_b2_2, own_b3_4, D_v, A4_10, nb_b2_2_ar9_10, nb_b3_4_ar9_10⟩
  refine wp_seq_k fun K11 hK11 => ?_
  refine rg mixed y10 zz10 ?_
  refine .i (sp_lss (hbs rfl e9) (hbs rfl e8)) ?_
  refine .done ⟨by kernel_rfl, fun a12 g W12 y12 zz12 hk hg hV hR hP => ?_⟩
  obtain ⟨e10, -⟩ := hV
  replace e2 := (hR 2 rfl).trans e2
  replace e3 := (hR 3 rfl).trans e3
  replace e7 := (hR 7 rfl).trans e7
  replace e8 := (hR 8 rfl).trans e8
  replace e9 := (hR 9 rfl).trans e9
  replace A4_10 := A4_10.ext hk
  replace D_v := D_v.ext hk
  replace e10 := e10.q
  replace own_b2_2 := own_b2_2.ext hk
  replace own_b3_4 := own_b3_4.ext hk
  replace kw := kw.x hk
  clear hR hk hg hP
  refine tail_nil (hK11 _ _ ?_)
  refine wp_seq_k fun K13 hK13 => ?_
  refine wp_cond_split e10 (fun hc => ?_) (fun hc => ?_)
  ·
   have hlt : k < ns.length := by simpa using hc
   refine wp_skip (hK13 _ _ ?_)
   refine wp_seq_k fun K14 hK14 => ?_
   refine wp_block ?_
   refine wp_seq_k fun K15 hK15 => ?_
   refine rg mixed y12 zz12 ?_
   refine .rf (sp_indexS (i := k) ((hbs rfl e7).dat D_v sub_all) (hbs rfl e9) Try.underlying23 sz9 rfl hlt) ?_
   refine .i (sp_loadStr (hlc rfl) agg9 sz9) ?_
   refine .i (sp_assign (hlc rfl)) ?_
   refine .done ⟨by kernel_rfl, fun a16 g W16 y16 zz16 hk hg hV hR hP => ?_⟩
   obtain ⟨e5, -, -, -⟩ := hV
   replace e2 := (hR 2 rfl).trans e2
   replace e3 := (hR 3 rfl).trans e3
   replace e7 := (hR 7 rfl).trans e7
   replace e8 := (hR 8 rfl).trans e8
   replace e9 := (hR 9 rfl).trans e9
   replace A4_10 := A4_10.ext hk
   replace D_v := D_v.ext hk
   have e5 : sl a16 5 = (.string (ns[k]'hlt)) := e5
   replace own_b2_2 := own_b2_2.ext hk
   replace own_b3_4 := own_b3_4.ext hk
   replace kw := kw.x hk
   clear hR hk hg hP
   refine tail_nil (hK15 _ _ ?_)
   refine wp_reg (fun k => k ∉ blks hd4_10) (Ψ := fun W => Arr W w.heap.size 33 5 (SF w (blks hd4_10 ++ (b3_4 :: (b2_2 :: [])))) (List.map V.d (List.map txtV (ns.take k))) va4_10 hd4_10) mixed y16 zz16 (fun W W' k h => h.ext k) A4_10 ?_
   refine .i (fo 4 (hbs rfl e3) Try.underlying33 rfl sz31 rfl) ?_
   refine .i (lo1 (hlc rfl) own_b3_4 nb_b3_4_ar9_10 agg31 sz31 rfl) ?_
   refine .i (sp_move (hbs rfl e5)) ?_
   refine .i (v := (.agg #[(.int .u8 (3)), (.int .i64 (0)), (.string (ns[k]'hlt)), (.slice none 0 0), (.slice none 0 0)])) (sp_call1 (φ1 := Is (.string (ns[k]'hlt))) ent37 (hlc rfl) (fun g u1 W hk hgk h1 => by have h1 : u1 = _ := h1; subst u1; exact pkText_ok (ns[k]'hlt) W)) ?_
   refine .op (φ := IsD (SF w (blks hd4_10 ++ (b3_4 :: (b2_2 :: [])))) (valsD ([V.mk (3) (0) (ns[k]'hlt) ([]) ([])]))) (st_d (sub_nbF (fun b hb => List.mem_append_left _ hb))) (sp_bsl (ds := [V.d (V.mk (3) (0) (ns[k]'hlt) ([]) ([]))]) Try.underlying31 sz33 z33 (lbr rfl) (lbr rfl) ⟨rfl, ((hlc rfl).dat (rdV_mk (rd_strAt D_v k hlt) (rd_nil _) (rd_nil _) : Rd W16 (SF w (blks hd4_10 ++ (b3_4 :: (b2_2 :: [])))) (V.d (V.mk (3) (0) (ns[k]'hlt) ([]) ([]))) _) (sub_nbF (fun b hb => List.mem_append_left _ hb))), trivial⟩ rfl (by intro e he; simp at he; rcases he with rfl <;> exact width_V _) (fr_sf kw (in_app A4_10.lt (in_cons own_b3_4.lt (in_cons own_b2_2.lt in_nil))))) ?_
   refine .appB (ds := List.map V.d (List.map txtV (ns.take k))) (es := [V.d (V.mk (3) (0) (ns[k]'hlt) ([]) ([]))]) (X := SF w (blks hd4_10 ++ (b3_4 :: (b2_2 :: [])))) Try.underlying31 inf33 (lbr rfl) (hlc rfl) (hlc rfl) (sub_nbF (fun b hb => List.mem_append_left _ hb)) (by simp [maxLen]; omega) (by simp; omega) kw.size ?_
   refine .i (fo 4 (hbs rfl e3) Try.underlying33 rfl sz31 rfl) ?_
   refine .done ⟨by kernel_rfl, fun a17 g W17 y17 zz17 hk hg hV hR hP => ?_⟩
   obtain ⟨e19, e18, -, -, -, -, -, -⟩ := hV
   replace e2 := (hR 2 rfl).trans e2
   replace e3 := (hR 3 rfl).trans e3
   replace e7 := (hR 7 rfl).trans e7
   replace e8 := (hR 8 rfl).trans e8
   replace e9 := (hR 9 rfl).trans e9
   obtain ⟨v18_17, ev⟩ : ∃ v, sl a17 18 = v := ⟨_, rfl⟩
   rw [ev] at e18
   obtain ⟨hd18_17, A_18_17, hf18_17⟩ := e18
   have e18 := ev; clear ev
   obtain ⟨v18_17a, v18_17n, v18_17c, ev⟩ := arr_sl A_18_17; subst ev
   replace A_18_17 := arrF_new (M' := (blks hd18_17 ++ (b3_4 :: (b2_2 :: [])))) A_18_17 (rep_app (rep_q fun _ h => h) (rep_cons (rep_cons rep_nil)))
   replace A_18_17 : Arr W17 w.heap.size 33 5 (SF w (blks hd18_17 ++ (b3_4 :: (b2_2 :: [])))) (List.map V.d ((List.map txtV (ns.take k)) ++ [V.mk (3) (0) (ns[k]'hlt) ([]) ([])])) (.slice v18_17a v18_17n v18_17c) hd18_17 := by first | exact A_18_17 | (rw [List.map_append]; exact A_18_17)
   have nb_b2_2_17 : b2_2 ∉ blks hd18_17 := nb_new nb_b2_2_ar9_10 own_b2_2.lt hf18_17
   have nb_b3_4_17 : b3_4 ∉ blks hd18_17 := nb_new nb_b3_4_ar9_10 own_b3_4.lt hf18_17
   replace D_v := sa_app (M' := (blks hd18_17 ++ (b3_4 :: (b2_2 :: [])))) D_v hk (fun b hb => List.mem_append_left _ hb) (rep_app hf18_17 (rep_cons (rep_cons rep_nil)))
   replace own_b2_2 := own_app own_b2_2 hk nb_b2_2_ar9_10
   replace own_b3_4 := own_app own_b3_4 hk nb_b3_4_ar9_10
   replace kw := keeps_app kw hk A4_10.ge
   have e19 : sl a17 19 = (.pointer (some ⟨b3_4, 4, none⟩)) := e19
   clear hR hk hg hP hf18_17 A4_10
   refine tail_store (b := b3_4) (o := 4) (v := (.slice v18_17a v18_17n v18_17c)) e19 e18 sz31 rfl own_b3_4 (lbr rfl) (all_cons rfl all_nil) (fun W18 hs own_b3_4 => ?_)
   have own_b3_4 : Own W18 b3_4 [(.int .u8 (4)), (.int .i64 (0)), (.string (⟨#[]⟩)), (.slice none 0 0), (.slice v18_17a v18_17n v18_17c)] 33 := own_b3_4
   replace own_b2_2 := own_store own_b2_2 hs ne_b2_2_b3_4
   replace D_v := sa_store D_v hs (by simp)
   replace A_18_17 := arrF_store A_18_17 hs (by simp) nb_b3_4_17
   replace kw := keeps_store kw hs lo_b3_4
   clear hs
   refine tail_nil (hK14 _ _ ?_)
   refine rg mixed y17 zz17 ?_
   refine .i (sp_add (hbs rfl e9) Has.cst (i64_in (by omega))) ?_
   refine .i (sp_move (hlc rfl)) ?_
   refine .done ⟨by kernel_rfl, fun a19 g W19 y19 zz19 hk hg hV hR hP => ?_⟩
   obtain ⟨e9, -, -⟩ := hV
   replace e2 := (hR 2 rfl).trans e2
   replace e3 := (hR 3 rfl).trans e3
   replace e7 := (hR 7 rfl).trans e7
   replace e8 := (hR 8 rfl).trans e8
   replace A_18_17 := A_18_17.ext hk
   replace D_v := D_v.ext hk
   replace e9 := e9.q
   replace own_b2_2 := own_b2_2.ext hk
   replace own_b3_4 := own_b3_4.ext hk
   replace kw := kw.x hk
   clear hR hk hg hP
   rw [show (List.map txtV (ns.take k)) ++ [V.mk (3) (0) (ns[k]'hlt) ([]) ([])] = List.map txtV (ns.take (k + 1)) by rw [List.take_succ_eq_append_getElem hlt, List.map_append]; rfl] at A_18_17
   exact tail_nil ⟨hlt, (.slice v18_17a v18_17n v18_17c), hd18_17, y19, zz19, kw, e2, e3, e7, e8, (e9.trans (congrArg (Value.int .i64) (by simp))), own_b2_2, own_b3_4, D_v, A_18_17, nb_b2_2_17, nb_b3_4_17⟩
  ·
   have hge0 : ¬ k < ns.length := by simpa using hc
   have hge : k = ns.length := by omega
   rw [show List.map txtV (ns.take k) = List.map txtV ns by rw [hge, List.take_length]] at A4_10
   have D_va4_10 : Rd W12 (SF w [b3_4, b2_2]) (valsD (List.map txtV ns)) va4_10 := arrF_rd A4_10 (ls_skipA (ls_keep (ls_keep ls_nil))) (nin_cons nb_b3_4_ar9_10 (nin_cons nb_b2_2_ar9_10 nin_nil))
   obtain ⟨va4_10a, va4_10c, ev, D2⟩ := rdVs_out D_va4_10
   subst ev; replace D_va4_10 := D2; clear D2
   replace D_v := sa_less (M' := [b3_4, b2_2]) D_v (ls_skipA (ls_keep (ls_keep ls_nil)))
   refine wp_exit (hK6 _ _ ?_)
   refine wp_seq_k fun K20 hK20 => ?_
   refine rg mixed y12 zz12 ?_
   refine .i (v := (.agg #[(.int .u8 (4)), (.int .i64 (0)), (.string (⟨#[]⟩)), (.slice none 0 0), (.slice va4_10a ((List.map txtV ns).length) va4_10c)])) (loA (hbs rfl e3) own_b3_4 trivial agg33 sz33 rfl rfl) ?_
   refine .done ⟨by kernel_rfl, fun a21 g W21 y21 zz21 hk hg hV hR hP => ?_⟩
   obtain ⟨e21, -⟩ := hV
   replace e2 := (hR 2 rfl).trans e2
   replace D_v := D_v.ext hk
   replace D_va4_10 := D_va4_10.ext hk
   replace e21 := e21.q
   replace own_b2_2 := own_b2_2.ext hk
   replace own_b3_4 := own_b3_4.ext hk
   replace kw := kw.x hk
   clear hR hk hg hP
   refine tail_store (b := b2_2) (o := 0) (v := (.agg #[(.int .u8 (4)), (.int .i64 (0)), (.string (⟨#[]⟩)), (.slice none 0 0), (.slice va4_10a ((List.map txtV ns).length) va4_10c)])) e2 e21 sz33 rfl own_b2_2 (lbr rfl) (all_cons rfl (all_cons rfl (all_cons rfl (all_cons rfl (all_cons rfl all_nil))))) (fun W22 hs own_b2_2 => ?_)
   have own_b2_2 : Own W22 b2_2 [(.int .u8 (4)), (.int .i64 (0)), (.string (⟨#[]⟩)), (.slice none 0 0), (.slice va4_10a ((List.map txtV ns).length) va4_10c)] 33 := own_b2_2
   replace own_b3_4 := own_store own_b3_4 hs ne_b2_2_b3_4.symm
   replace D_v := sa_store D_v hs (by simp)
   replace D_va4_10 := sf_store D_va4_10 hs (by simp)
   replace kw := keeps_store kw hs lo_b2_2
   clear hs
   refine tail_nil (hK20 _ _ ?_)
   refine wp_ret ?_
   refine (show bodyPost Try.prog Try.f113 _ .ret _ _ from retC (v := (.agg #[(.int .u8 (4)), (.int .i64 (0)), (.string (⟨#[]⟩)), (.slice none 0 0), (.slice va4_10a ((List.map txtV ns).length) va4_10c)])) rfl zz21 e2 own_b2_2 agg33 sz33 rfl (fun h => by cases h) rfl ⟨_, rfl, kw, ?_⟩)
   exact sf_fr (rdV_mk (lbr rfl) (rd_nil _) D_va4_10 : Rd W22 (SF w [b3_4, b2_2]) (V.d (V.mk (4) (0) (⟨#[]⟩) ([]) (List.map txtV ns))) _)
set_option maxRecDepth 100000 in
theorem Members_ok (au : Au) (hn : au.ids.length ≤ 1073741824) (w : World) (S : BSet) (v : Value) (hv : Rd w S au.d v) : Calls Try.prog 51 #[v] w (Ret w fun u W => Rd W (Fr w) (mbsD (authL au)) u) := by
  obtain ⟨p0_1a, p0_1c, ev, D_p0_1⟩ := rdAu_out (rd_arg hv)
  subst ev
  refine enter Try.func51 rfl Try.ntmps51 (lbr rfl) fun a0 y0 zz0 harg => ?_
  have e0 : sl a0 0 = (.agg #[(.int .i64 (au.th)), (.slice p0_1a (au.ids.length) p0_1c)]) := harg 0 (lbr rfl)
  have kw := Keeps.refl All w
  clear harg
  refine wp_seq_k fun K1 hK1 => ?_
  refine rg mixed y0 zz0 ?_
  refine .boxOp (v := (.agg #[(.int .i64 (au.th)), (.slice p0_1a (au.ids.length) p0_1c)])) (hbs rfl e0) ?_
  refine .i (sp_assign Has.cst) ?_
  refine .done ⟨by kernel_rfl, fun a2 g W2 y2 zz2 hk hg hV hR hP => ?_⟩
  obtain ⟨-, ⟨b1_2, e1, hb1, own_b1_2⟩, -⟩ := hV
  have lo_b1_2 : w.heap.size ≤ b1_2 := Nat.le_trans kw.size (hg.lo _ _ hb1)
  have own_b1_2 : Own W2 b1_2 [(.int .i64 (au.th)), (.slice p0_1a (au.ids.length) p0_1c)] 27 := own_b1_2
  replace D_p0_1 := sa_more D_p0_1 hk [b1_2] (in_cons (hg.lo _ _ hb1) in_nil)
  replace kw := kw.x hk
  clear hR hk hg hP hb1
  refine tail_nil (hK1 _ _ ?_)
  refine wp_seq_k fun K3 hK3 => ?_
  refine rg mixed y2 zz2 ?_
  refine .i (fo 1 (hbs rfl e1) Try.underlying27 rfl sz23 rfl) ?_
  refine .i (lo1 (hlc rfl) own_b1_2 trivial agg23 sz23 rfl) ?_
  refine .da (X := Fr W2) (e := V.d (txtsV au.ids)) (sp_call1 (φ1 := IsD (SA w S [b1_2]) (strsD (au.ids))) ent113 ((hlc rfl).dat D_p0_1 sub_all) (fun g u1 W hk hgk h1 => (pkTexts_ok (au.ids) hn W _ _ h1).mono (ret_fr hk hgk))) ?_
  refine .da (X := Fr W2) (e := Mb.d (Mb.mk (⟨#[107, 101, 121, 105, 100, 115]⟩) (txtsV au.ids))) (sp_buildD (zd := [D.str ⟨#[]⟩, V.d V.zero]) (es := [(0, D.str (⟨#[107, 101, 121, 105, 100, 115]⟩)), (1, V.d (txtsV au.ids))]) Try.underlying67 z67 (pl67 Try.underlying67) ⟨rfl, Has.cst.str (lbr rfl), ⟨rfl, (hlc rfl), trivial⟩⟩ zMb (by first | rfl | simp [plOf, width, width_V, hssD]) (by simp [fits, width, strsD, valsD, hssD, width_V]) rfl) ?_
  refine .i (fo 0 (hbs rfl e1) Try.underlying27 rfl sz3 rfl) ?_
  refine .i (lo1 (hlc rfl) own_b1_2 trivial agg3 sz3 rfl) ?_
  refine .i (v := (.agg #[(.int .u8 (2)), (.int .i64 (au.th)), (.string (⟨#[]⟩)), (.slice none 0 0), (.slice none 0 0)])) (sp_call1 (φ1 := Is (.int .i64 (au.th))) ent39 (hlc rfl) (fun g u1 W hk hgk h1 => by have h1 : u1 = _ := h1; subst u1; exact pkNum_ok (au.th) W)) ?_
  refine .i (v := (.agg #[(.string (⟨#[116, 104, 114, 101, 115, 104, 111, 108, 100]⟩)), (.int .u8 (2)), (.int .i64 (au.th)), (.string (⟨#[]⟩)), (.slice none 0 0), (.slice none 0 0)])) (sp_build (vs := [(0, (.string (⟨#[116, 104, 114, 101, 115, 104, 111, 108, 100]⟩))), (1, (.agg #[(.int .u8 (2)), (.int .i64 (au.th)), (.string (⟨#[]⟩)), (.slice none 0 0), (.slice none 0 0)]))]) Try.underlying67 z67 (pl67 Try.underlying67) ⟨rfl, Has.cst, rfl, (hlc rfl), trivial⟩ (by kernel_rfl)) ?_
  refine .da (X := SF w [b1_2]) (e := mbsD ([Mb.mk (⟨#[107, 101, 121, 105, 100, 115]⟩) (txtsV au.ids), Mb.mk (⟨#[116, 104, 114, 101, 115, 104, 111, 108, 100]⟩) (V.mk (2) (au.th) (⟨#[]⟩) ([]) ([]))])) (sp_bsl (ds := [Mb.d (Mb.mk (⟨#[107, 101, 121, 105, 100, 115]⟩) (txtsV au.ids)), Mb.d (Mb.mk (⟨#[116, 104, 114, 101, 115, 104, 111, 108, 100]⟩) (V.mk (2) (au.th) (⟨#[]⟩) ([]) ([])))]) Try.underlying82 sz67 z67 (lbr rfl) (lbr rfl) ⟨rfl, ((hlc rfl).sup (fr_sf kw (in_cons own_b1_2.lt in_nil))), ⟨rfl, ((hlc rfl).dat (rdMb_mk (lbr rfl) (rdV_mk (by decide) (rd_nil _) (rd_nil _) : Rd W2 (SF w [b1_2]) (V.d (V.mk (2) (au.th) (⟨#[]⟩) ([]) ([]))) _) : Rd W2 (SF w [b1_2]) (Mb.d (Mb.mk (⟨#[116, 104, 114, 101, 115, 104, 111, 108, 100]⟩) (V.mk (2) (au.th) (⟨#[]⟩) ([]) ([])))) _) sub_all), trivial⟩⟩ rfl (by intro e he; simp at he; rcases he with rfl | rfl <;> exact width_Mb _) (fr_sf kw (in_cons own_b1_2.lt in_nil))) ?_
  refine .da (X := SF w [b1_2]) (e := mbsD ([Mb.mk (⟨#[107, 101, 121, 105, 100, 115]⟩) (txtsV au.ids), Mb.mk (⟨#[116, 104, 114, 101, 115, 104, 111, 108, 100]⟩) (V.mk (2) (au.th) (⟨#[]⟩) ([]) ([]))])) (sp_assign (hlc rfl)) ?_
  refine .done ⟨by kernel_rfl, fun a4 g W4 y4 zz4 hk hg hV hR hP => ?_⟩
  obtain ⟨e2, -, -, -, -, -, -, -, -, -, -⟩ := hV
  replace D_p0_1 := D_p0_1.ext hk
  obtain ⟨v2_4, ev⟩ : ∃ v, sl a4 2 = v := ⟨_, rfl⟩
  rw [ev] at e2
  have D_v2_4 : Rd W4 (SF w [b1_2]) (mbsD ([Mb.mk (⟨#[107, 101, 121, 105, 100, 115]⟩) (txtsV au.ids), Mb.mk (⟨#[116, 104, 114, 101, 115, 104, 111, 108, 100]⟩) (V.mk (2) (au.th) (⟨#[]⟩) ([]) ([]))])) v2_4 := sf_end e2 hk [] in_nil
  replace e2 := ev; clear ev
  obtain ⟨v2_4a, v2_4c, ev, D2⟩ := rdMbs_out D_v2_4
  subst ev; replace D_v2_4 := D2; clear D2
  replace own_b1_2 := own_b1_2.ext hk
  replace kw := kw.x hk
  clear hR hk hg hP
  refine tail_nil (hK3 _ _ ?_)
  refine wp_ret ?_
  refine (show bodyPost Try.prog Try.f51 _ .ret _ _ from ret1 rfl zz4 e2 ⟨_, rfl, kw, ?_⟩)
  exact sf_fr D_v2_4
set_option maxRecDepth 100000 in
theorem ValueA_ok (au : Au) (hw : ∀ m ∈ authL au, m.v.wt ≤ 1073741824) (w : World) (S : BSet) (v : Value) (hv : Rd w S au.d v) : Calls Try.prog 50 #[v] w (Ret w fun r W => ∃ r1, r = .tuple #[r1, .int .i64 (valE au)] ∧ Rd W (Fr w) (V.d (valV au)) r1) := by
  obtain ⟨p0_1a, p0_1c, ev, D_p0_1⟩ := rdAu_out (rd_arg hv)
  subst ev
  refine enter Try.func50 rfl Try.ntmps50 (lbr rfl) fun a0 y0 zz0 harg => ?_
  have e0 : sl a0 0 = (.agg #[(.int .i64 (au.th)), (.slice p0_1a (au.ids.length) p0_1c)]) := harg 0 (lbr rfl)
  have kw := Keeps.refl All w
  clear harg
  refine wp_seq_k fun K1 hK1 => ?_
  refine rg mixed y0 zz0 ?_
  refine .boxOp (v := (.agg #[(.int .i64 (au.th)), (.slice p0_1a (au.ids.length) p0_1c)])) (hbs rfl e0) ?_
  refine .alloc z33 ?_
  refine .i (sp_assign Has.cst) ?_
  refine .done ⟨by kernel_rfl, fun a2 g W2 y2 zz2 hk hg hV hR hP => ?_⟩
  obtain ⟨-, ⟨b2_2, e2, hb2, own_b2_2⟩, ⟨b1_2, e1, hb1, own_b1_2⟩, -⟩ := hV
  have lo_b2_2 : w.heap.size ≤ b2_2 := Nat.le_trans kw.size (hg.lo _ _ hb2)
  have own_b2_2 : Own W2 b2_2 [(.int .u8 (0)), (.int .i64 (0)), (.string (⟨#[]⟩)), (.slice none 0 0), (.slice none 0 0)] 33 := own_b2_2
  have lo_b1_2 : w.heap.size ≤ b1_2 := Nat.le_trans kw.size (hg.lo _ _ hb1)
  have own_b1_2 : Own W2 b1_2 [(.int .i64 (au.th)), (.slice p0_1a (au.ids.length) p0_1c)] 27 := own_b1_2
  have ne_b2_2_b1_2 : b2_2 ≠ b1_2 := fun h => by have := hg.inj _ _ _ hb2 (h ▸ hb1); cases this
  replace D_p0_1 := sa_more D_p0_1 hk [b2_2, b1_2] (in_cons (hg.lo _ _ hb2) (in_cons (hg.lo _ _ hb1) in_nil))
  replace kw := kw.x hk
  clear hR hk hg hP hb2 hb1
  refine tail_nil (hK1 _ _ ?_)
  refine wp_seq_k fun K3 hK3 => ?_
  refine wp_seq_k fun K4 hK4 => ?_
  refine rg mixed y2 zz2 ?_
  refine .i (v := (.agg #[(.int .i64 (au.th)), (.slice p0_1a (au.ids.length) p0_1c)])) (loA (hbs rfl e1) own_b1_2 trivial agg27 sz27 rfl rfl) ?_
  refine .i (v := (.bool (mayA au))) (sp_call1 (φ1 := IsD (SA w S [b2_2, b1_2]) (Au.d (au))) ent18 ((hlc rfl).dat (rdAu_mk D_p0_1 : Rd W2 (SA w S [b2_2, b1_2]) (Au.d (au)) _) sub_all) (fun g u1 W hk hgk h1 => mayA_ok (au) W _ _ h1)) ?_
  refine .i (sp_not (hlc rfl)) ?_
  refine .done ⟨by kernel_rfl, fun a5 g W5 y5 zz5 hk hg hV hR hP => ?_⟩
  obtain ⟨e6, -, -, -⟩ := hV
  replace e2 := (hR 2 rfl).trans e2
  replace e1 := (hR 1 rfl).trans e1
  replace D_p0_1 := D_p0_1.ext hk
  have e6 : sl a5 6 = (.bool (!(mayA au))) := e6
  replace own_b2_2 := own_b2_2.ext hk
  replace own_b1_2 := own_b1_2.ext hk
  replace kw := kw.x hk
  clear hR hk hg hP
  refine tail_nil (hK4 _ _ ?_)
  refine wp_cond_split e6 (fun hc => ?_) (fun hc => ?_)
  ·
   have hm : mayA au = false := by simpa using hc
   have hoe : valE au = 3 := by rw [valE, hm]; rfl
   have hov : valV au = ⟨0, 0, ⟨#[]⟩, [], []⟩ := by rw [valV, hm]; rfl
   refine wp_seq_k fun K6 hK6 => ?_
   refine rg mixed y5 zz5 ?_
   refine .i (v := (.agg #[(.int .u8 (0)), (.int .i64 (0)), (.string (⟨#[]⟩)), (.slice none 0 0), (.slice none 0 0)])) (sp_build (vs := []) Try.underlying33 z33 (pl33 Try.underlying33) trivial rfl) ?_
   refine .done ⟨by kernel_rfl, fun a7 g W7 y7 zz7 hk hg hV hR hP => ?_⟩
   obtain ⟨e7, -⟩ := hV
   replace e2 := (hR 2 rfl).trans e2
   replace D_p0_1 := D_p0_1.ext hk
   replace e7 := e7.q
   replace own_b2_2 := own_b2_2.ext hk
   replace own_b1_2 := own_b1_2.ext hk
   replace kw := kw.x hk
   clear hR hk hg hP
   refine tail_store (b := b2_2) (o := 0) (v := (.agg #[(.int .u8 (0)), (.int .i64 (0)), (.string (⟨#[]⟩)), (.slice none 0 0), (.slice none 0 0)])) e2 e7 sz33 rfl own_b2_2 (lbr rfl) (all_cons rfl (all_cons rfl (all_cons rfl (all_cons rfl (all_cons rfl all_nil))))) (fun W8 hs own_b2_2 => ?_)
   have own_b2_2 : Own W8 b2_2 [(.int .u8 (0)), (.int .i64 (0)), (.string (⟨#[]⟩)), (.slice none 0 0), (.slice none 0 0)] 33 := own_b2_2
   replace own_b1_2 := own_store own_b1_2 hs ne_b2_2_b1_2.symm
   replace D_p0_1 := sa_store D_p0_1 hs (by simp)
   replace kw := keeps_store kw hs lo_b2_2
   clear hs
   refine tail_assign (v := (.int .i64 (3))) rfl (by rw [y7]; exact Nat.le_of_ble_eq_true rfl) (fun a9 y9 zz9 e3 hr => ?_)
   replace y9 := y9.trans y7; replace zz9 := zz9.trans zz7
   replace e2 := (hr 2 (by decide)).trans e2
   replace e7 := (hr 7 (by decide)).trans e7
   clear hr
   refine tail_nil (hK6 _ _ ?_)
   refine wp_ret ?_
   refine (show bodyPost Try.prog Try.f50 _ .ret _ _ from retCT (v := (.agg #[(.int .u8 (0)), (.int .i64 (0)), (.string (⟨#[]⟩)), (.slice none 0 0), (.slice none 0 0)])) rfl zz9 e2 own_b2_2 agg33 sz33 rfl (fun h => by cases h) rfl e3 ⟨_, rfl, kw, ?_⟩)
   refine ⟨_, congrArg (fun q => Value.tuple #[_, Value.int .i64 q]) hoe.symm, ?_⟩
   rw [hov]
   exact sf_fr (rdV_mk (lbr rfl) (rd_nil _) (rd_nil _) : Rd W8 (SF w [b2_2, b1_2]) (V.d (V.mk (0) (0) (⟨#[]⟩) ([]) ([]))) _)
  ·
   have hm : mayA au = true := by simpa using hc
   have hmo := mayA_out hm
   have hoe : valE au = objE (authL au) := by rw [valE, hm, authL_E]; rfl
   have hov : valV au = objM (authL au) := by rw [valV, hm, authL_M]; rfl
   refine wp_skip (hK3 _ _ ?_)
   refine wp_seq_k fun K10 hK10 => ?_
   refine rg mixed y5 zz5 ?_
   refine .i (v := (.agg #[(.int .i64 (au.th)), (.slice p0_1a (au.ids.length) p0_1c)])) (loA (hbs rfl e1) own_b1_2 trivial agg27 sz27 rfl rfl) ?_
   refine .da (X := Fr W5) (e := mbsD (authL au)) (sp_call1 (φ1 := IsD (SA w S [b2_2, b1_2]) (Au.d (au))) ent51 ((hlc rfl).dat (rdAu_mk D_p0_1 : Rd W5 (SA w S [b2_2, b1_2]) (Au.d (au)) _) sub_all) (fun g u1 W hk hgk h1 => (Members_ok (au) (by omega) W _ _ h1).mono (ret_fr hk hgk))) ?_
   refine .op (φ := IsT (IsD (Fr W5) (V.d (objM (authL au)))) (Is (.int .i64 (objE (authL au))))) (st_t (st_d sub_all) (st_is _)) (sp_call1 (φ1 := IsD (Fr W5) (mbsD (authL au))) ent38 (hlc rfl) (fun g u1 W hk hgk h1 => (ObjectOf_ok (authL au) (by simp [authL]) (by simp [authL]) hw W _ _ (fun b o h => h.1.2) h1).mono (fun _ _ ⟨v, h1, h2, r1, h3, h4⟩ => ⟨v, h1, h2, r1, _, h3, fresh_d hk hgk h4, rfl⟩))) ?_
   refine .da (X := Fr W5) (e := V.d (objM (authL au))) (sp_ext2 (hlc rfl) rfl) ?_
   refine .i (v := (.int .i64 (objE (authL au)))) (sp_ext2' (hlc rfl) rfl) ?_
   refine .done ⟨by kernel_rfl, fun a11 g W11 y11 zz11 hk hg hV hR hP => ?_⟩
   obtain ⟨e12, e11, -, -, -, -⟩ := hV
   replace e2 := (hR 2 rfl).trans e2
   replace D_p0_1 := D_p0_1.ext hk
   obtain ⟨v11_11, ev⟩ : ∃ v, sl a11 11 = v := ⟨_, rfl⟩
   rw [ev] at e11
   have D_v11_11 : Rd W11 (SF w [b2_2, b1_2]) (V.d (objM (authL au))) v11_11 := fr_end (M := [b2_2, b1_2]) e11 kw [] in_nil (in_cons own_b2_2.lt (in_cons own_b1_2.lt in_nil))
   replace e11 := ev; clear ev
   obtain ⟨cn11_11a, cn11_11c, ci11_11a, ci11_11c, ev, ht_v11_11, D_cn11_11, D_ci11_11⟩ := rdV_out D_v11_11
   subst ev; clear D_v11_11
   have e12 : sl a11 12 = (.int .i64 (objE (authL au))) := e12
   replace own_b2_2 := own_b2_2.ext hk
   replace own_b1_2 := own_b1_2.ext hk
   replace kw := kw.x hk
   clear hR hk hg hP
   refine tail_store (b := b2_2) (o := 0) (v := (.agg #[(.int .u8 ((objM (authL au)).k)), (.int .i64 ((objM (authL au)).n)), (.string ((objM (authL au)).t)), (.slice cn11_11a (((objM (authL au)).ns).length) cn11_11c), (.slice ci11_11a (((objM (authL au)).xs).length) ci11_11c)])) e2 e11 sz33 rfl own_b2_2 (lbr rfl) (all_cons rfl (all_cons rfl (all_cons rfl (all_cons rfl (all_cons rfl all_nil))))) (fun W12 hs own_b2_2 => ?_)
   have own_b2_2 : Own W12 b2_2 [(.int .u8 ((objM (authL au)).k)), (.int .i64 ((objM (authL au)).n)), (.string ((objM (authL au)).t)), (.slice cn11_11a (((objM (authL au)).ns).length) cn11_11c), (.slice ci11_11a (((objM (authL au)).xs).length) ci11_11c)] 33 := own_b2_2
   replace own_b1_2 := own_store own_b1_2 hs ne_b2_2_b1_2.symm
   replace D_p0_1 := sa_store D_p0_1 hs (by simp)
   replace D_cn11_11 := sf_store D_cn11_11 hs (by simp)
   replace D_ci11_11 := sf_store D_ci11_11 hs (by simp)
   replace kw := keeps_store kw hs lo_b2_2
   clear hs
   refine tail_assign (v := (.int .i64 (objE (authL au)))) e12 (by rw [y11]; exact Nat.le_of_ble_eq_true rfl) (fun a13 y13 zz13 e3 hr => ?_)
   replace y13 := y13.trans y11; replace zz13 := zz13.trans zz11
   replace e2 := (hr 2 (by decide)).trans e2
   replace e11 := (hr 11 (by decide)).trans e11
   replace e12 := (hr 12 (by decide)).trans e12
   clear hr
   refine tail_nil (hK10 _ _ ?_)
   refine wp_ret ?_
   refine (show bodyPost Try.prog Try.f50 _ .ret _ _ from retCT (v := (.agg #[(.int .u8 ((objM (authL au)).k)), (.int .i64 ((objM (authL au)).n)), (.string ((objM (authL au)).t)), (.slice cn11_11a (((objM (authL au)).ns).length) cn11_11c), (.slice ci11_11a (((objM (authL au)).xs).length) ci11_11c)])) rfl zz13 e2 own_b2_2 agg33 sz33 rfl (fun h => by cases h) rfl e3 ⟨_, rfl, kw, ?_⟩)
   refine ⟨_, congrArg (fun q => Value.tuple #[_, Value.int .i64 q]) hoe.symm, ?_⟩
   rw [hov]
   exact sf_fr (rdV_in (x := (objM (authL au))) ht_v11_11 D_cn11_11 D_ci11_11 : Rd W12 (SF w [b2_2, b1_2]) (V.d ((objM (authL au)))) _)
end Go.Proofs.Ytnobijngkpflcaa
namespace Go.Eng
def AscM (L : List Mb) : Prop := ∀ i j (hj : j < L.length) (hij : i < j), sLt (L[i]'(by omega)).nm L[j].nm = true
theorem rdMbs_at {W : World} {X : BSet} {l : List Mb} {v : Value} {i : Nat} (h : Rd W X (mbsD l) v) (hi : i < l.length) : l[i].nm.size ≤ maxLen := by
  obtain ⟨cs, h1, _⟩ := h
  simp only [mbsD, RdC] at h1
  obtain ⟨a, cap, _, h2, h3, h4⟩ := h1
  rcases h4 with h4 | ⟨b, o, _, _, _, h5⟩
  · simp at h4; subst h4; simp at hi
  · obtain ⟨c, hc⟩ := rdl_at _ _ i (by simpa using hi) h5
    rw [List.getElem_map] at hc
    obtain ⟨_, _, _, _, _, h6, _⟩ := rdMb_out (⟨c, hc, rfl⟩ : Rd W X l[i].d (asm l[i].d c))
    exact h6
theorem sLt_asymm {a b : ByteArray} (h : sLt a b = true) : sLt b a = false := by
  cases hq : sLt b a with
  | false => rfl
  | true => have := sLt_trans h hq; rw [sLt_irrefl] at this; cases this
theorem ascM_ne {L : List Mb} (h : AscM L) {i j : Nat} (hi : i < L.length) (hj : j < L.length) (hij : j < i) : L[i].nm ≠ L[j].nm := fun e => by
  have := h j i hi hij
  rw [e, sLt_irrefl] at this; cases this
theorem last_nm {L : List Mb} {k : Nat} (h0 : 0 < k) (hk : k ≤ L.length) : (List.map Mb.nm (L.take k)).getD ((List.map Mb.nm (L.take k)).length - 1) ⟨#[]⟩ = (L[k - 1]'(by omega)).nm := by
  have hl : (List.map Mb.nm (L.take k)).length = k := by simp; omega
  rw [hl, List.getD_eq_getElem?_getD, List.getElem?_eq_getElem (by rw [hl]; omega)]
  simp
theorem skip_eq {L : List Mb} (h : AscM L) {k j : Nat} (hk : k ≤ L.length) (hj : j < L.length) :
    (decide ((0 : Int) < ((List.map Mb.nm (L.take k)).length : Int)) && (sLt (L[j]'hj).nm ((List.map Mb.nm (L.take k)).getD ((List.map Mb.nm (L.take k)).length - 1) ⟨#[]⟩) || decide ((L[j]'hj).nm = ((List.map Mb.nm (L.take k)).getD ((List.map Mb.nm (L.take k)).length - 1) ⟨#[]⟩)))) = decide (j < k) := by
  have hl : (List.map Mb.nm (L.take k)).length = k := by simp; omega
  by_cases h0 : 0 < k
  · rw [last_nm h0 hk, hl, decide_eq_true (by omega : (0 : Int) < (k : Int)), Bool.true_and]
    rw [Bool.eq_iff_iff]
    simp only [Bool.or_eq_true, decide_eq_true_eq]
    constructor
    · intro hc
      rcases Nat.lt_or_ge j k with h1 | h1
      · exact h1
      · have h2 := h (k - 1) j hj (by omega)
        rcases hc with hc | hc
        · rw [sLt_asymm h2] at hc; cases hc
        · rw [hc, sLt_irrefl] at h2; cases h2
    · intro h1
      rcases Nat.lt_or_ge j (k - 1) with h2 | h2
      · exact .inl (h j (k - 1) (by omega) h2)
      · have : j = k - 1 := by omega
        subst this; exact .inr rfl
  · have : k = 0 := by omega
    subst this
    simp
theorem pick_eq {L : List Mb} (h : AscM L) {k j : Nat} (hk : k < L.length) (hj : j < L.length) (hkj : k ≤ j) :
    (decide ((if j ≤ k then (-1 : Int) else (k : Int)) < 0) || sLt (L[j]'hj).nm (L[k]'hk).nm) = decide (j = k) := by
  by_cases e : j = k
  · subst e; simp
  · rw [if_neg (by omega), decide_eq_false (by omega : ¬ (k : Int) < 0), Bool.false_or, sLt_asymm (h k j hj (by omega)), decide_eq_false e]
theorem atI {j k : Nat} (h : decide ((if j ≤ k then (-1 : Int) else (k : Int)) < 0) = false) : (if j ≤ k then (-1 : Int) else (k : Int)) = k := by
  have := of_decide_eq_false h
  split at this
  · omega
  · rename_i hn; rw [if_neg hn]
theorem authL_asc (a : Au) : AscM (authL a) := fun i j hj hij => by
  have hl : (authL a).length = 2 := rfl
  have h1 : j = 1 := by omega
  have h2 : i = 0 := by omega
  subst h1; subst h2
  show sLt kiN thN = true
  kernel_rfl
def hexR (c : Nat) : Int := if 48 ≤ c ∧ c ≤ 57 then c - 48 else if 97 ≤ c ∧ c ≤ 102 then c - 97 + 10 else -1
theorem hexR_lt (c : Nat) : decide (hexR c < 0) = !hexB c := by
  unfold hexR hexB
  by_cases h1 : 48 ≤ c ∧ c ≤ 57
  · rw [if_pos h1]; simp [h1.1, h1.2]; omega
  · rw [if_neg h1]
    by_cases h2 : 97 ≤ c ∧ c ≤ 102
    · rw [if_pos h2]; simp [h2.1, h2.2]; omega
    · rw [if_neg h2]; rw [Bool.eq_iff_iff]; simp; omega
def refIds (l : List ByteArray) : Int := if l.length = 0 then 4 else wrongE [] l
theorem refMay_eq (a : Au) : ((((decide ((a.ids.length : Int) ≤ (16 : Int))) && (((refIds a.ids : Int) == (0 : Int)))) && (decide ((1 : Int) ≤ (a.th : Int)))) && (decide ((a.th : Int) ≤ (a.ids.length : Int)))) = mayA a := by
  rw [Bool.eq_iff_iff]
  unfold mayA refIds
  simp
  by_cases h0 : a.ids = []
  · simp [h0]
  · have hp : 0 < a.ids.length := List.length_pos_iff.2 h0
    simp [h0]
    constructor
    · rintro ⟨⟨⟨h1, h2⟩, h3⟩, h4⟩
      exact ⟨⟨by omega, by omega, by omega, by omega⟩, h2⟩
    · rintro ⟨⟨h1, h2, h3, h4⟩, h5⟩
      exact ⟨⟨⟨by omega, h5⟩, by omega⟩, by omega⟩
theorem txts_wtL : ∀ (ids : List ByteArray), (∀ s ∈ ids, s.size < 5000) → V.wts (ids.map txtV) ≤ 5000 * ids.length
  | [], _ => by simp [V.wts]
  | s :: r, h => by
    have h1 := txts_wtL r fun x hx => h x (List.mem_cons_of_mem _ hx)
    have h2 := h s List.mem_cons_self
    have h3 : (txtV s).wt = 1 + s.size := by rw [wt_eq]; simp [txtV, V.t, V.ns, V.xs, wtN, V.wts]
    simp only [List.map_cons, V.wts, List.length_cons, h3]
    omega
theorem authL_wtL {a : Au} (h : szI a.ids 0 < 5000) : ∀ m ∈ authL a, m.v.wt ≤ 1073741824 := fun m hm => by
  have h1 := txts_wtL a.ids (szI_str a.ids 0 h)
  have h2 := szI_len a.ids 0 h
  have h3 : (txtsV a.ids).wt = 1 + (ByteArray.size ⟨#[]⟩) + wtN [] + V.wts (a.ids.map txtV) := wt_eq _
  have h0 : ByteArray.size ⟨#[]⟩ = 0 := rfl
  have h6 : wtN [] = 0 := rfl
  simp [authL] at hm
  rcases hm with rfl | rfl
  · show (txtsV a.ids).wt ≤ _; omega
  · have : (numVv a.th).wt = 1 := rfl
    show (numVv a.th).wt ≤ _; omega
theorem valV_wt (a : Au) : (valV a).wt ≤ 1073741824 := by
  unfold valV
  split
  · rename_i h; exact objV_wt h
  · decide
end Go.Eng
