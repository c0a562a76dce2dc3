import Derived.Test.YtnobijngkpflcaaH6
import Derived.Test.YtnobijngkpflcaaPureL
namespace Go.Proofs.Ytnobijngkpflcaa
open Go.Eng
set_option maxRecDepth 100000 in
theorem takeSD_ok (k : Nat) (n : Int) (t : ByteArray) (cn ci mv : Value) (e : Int) (hE : errK k e ≠ 0) (name : ByteArray) (fv : Value) (w : World) (bo : Nat) (own_bo : Own w bo [.int .u8 k, .int .i64 n, .string t, cn, ci, mv, .int .i64 e] 74) : Calls Try.prog 98 #[.pointer (some ⟨bo, 0, none⟩), .string name, fv] w (Ret w fun u _ => u = .slice none 0 0) := by
  refine enter Try.func98 rfl Try.ntmps98 (lbr rfl) fun a0 y0 zz0 harg => ?_
  have e0 : sl a0 0 = (.pointer (some ⟨bo, 0, none⟩)) := harg 0 (lbr rfl)
  have e1 : sl a0 1 = (.string (name)) := harg 1 (lbr rfl)
  have e2 : sl a0 2 = fv := harg 2 (lbr rfl)
  have kw := Keeps.refl All w
  clear harg
  refine wp_seq_k fun K1 hK1 => ?_
  refine rg mixed y0 zz0 ?_
  refine .i (sp_assign Has.cst) ?_
  refine .done ⟨by kernel_rfl, fun a2 g W2 y2 zz2 hk hg hV hR hP => ?_⟩
  obtain ⟨-, -⟩ := hV
  replace e0 := (hR 0 rfl).trans e0
  replace e1 := (hR 1 rfl).trans e1
  replace e2 := (hR 2 rfl).trans e2
  replace own_bo := own_bo.ext hk
  replace kw := kw.x hk
  clear hR hk hg hP
  refine tail_nil (hK1 _ _ ?_)
  refine wp_seq_k fun K3 hK3 => ?_
  refine rg mixed y2 zz2 ?_
  refine .i (sp_assign Has.cst) ?_
  refine .done ⟨by kernel_rfl, fun a4 g W4 y4 zz4 hk hg hV hR hP => ?_⟩
  obtain ⟨e7, -⟩ := hV
  replace e0 := (hR 0 rfl).trans e0
  replace e1 := (hR 1 rfl).trans e1
  replace e2 := (hR 2 rfl).trans e2
  have e7 : sl a4 7 = (.slice none 0 0) := e7
  replace own_bo := own_bo.ext hk
  replace kw := kw.x hk
  clear hR hk hg hP
  refine tail_nil (hK3 _ _ ?_)
  refine wp_seq_k fun K5 hK5 => ?_
  refine wp_seq_k fun K6 hK6 => ?_
  refine rg mixed y4 zz4 ?_
  refine .i (sp_move (hbs rfl e0)) ?_
  refine .i (v := (.int .i64 (errK (k : Nat) e))) (sp_call1 (φ1 := Is (.pointer (some ⟨bo, 0, none⟩))) ent24 (hlc rfl) (fun g u1 W hk hgk h1 => by have h1 : u1 = _ := h1; subst u1; exact Err_ok _ _ _ _ _ _ _ W _ (own_bo.ext hk))) ?_
  refine .i (sp_neq (hlc rfl) Has.cst) ?_
  refine .done ⟨by kernel_rfl, fun a7 g W7 y7 zz7 hk hg hV hR hP => ?_⟩
  obtain ⟨e14, -, -, -⟩ := hV
  replace e0 := (hR 0 rfl).trans e0
  replace e1 := (hR 1 rfl).trans e1
  replace e2 := (hR 2 rfl).trans e2
  replace e7 := (hR 7 rfl).trans e7
  replace e14 := e14.q
  replace own_bo := own_bo.ext hk
  replace kw := kw.x hk
  clear hR hk hg hP
  refine tail_nil (hK6 _ _ ?_)
  refine wp_cond_split e14 (fun hc => ?_) (fun hc => ?_)
  ·
   refine wp_seq_k fun K8 hK8 => ?_
   refine rg mixed y7 zz7 ?_
   refine .i (sp_move (hbs rfl e7)) ?_
   refine .i (sp_assign (hlc rfl)) ?_
   refine .done ⟨by kernel_rfl, fun a9 g W9 y9 zz9 hk hg hV hR hP => ?_⟩
   obtain ⟨e6, -, -⟩ := hV
   have e6 : sl a9 6 = (.slice none 0 0) := e6
   replace own_bo := own_bo.ext hk
   replace kw := kw.x hk
   clear hR hk hg hP
   refine tail_nil (hK8 _ _ ?_)
   refine wp_ret ?_
   refine (show bodyPost Try.prog Try.f98 _ .ret _ _ from ret1 rfl zz9 e6 ⟨_, rfl, kw, ?_⟩)
   exact rfl
  ·
   exfalso
   exact hE (by simpa using hc)

set_option maxRecDepth 100000 in
theorem takeID_ok (k : Nat) (n : Int) (t : ByteArray) (cn ci mv : Value) (e : Int) (hE : errK k e ≠ 0) (name : ByteArray) (fv : Value) (w : World) (bo : Nat) (own_bo : Own w bo [.int .u8 k, .int .i64 n, .string t, cn, ci, mv, .int .i64 e] 74) : Calls Try.prog 104 #[.pointer (some ⟨bo, 0, none⟩), .string name, fv] w (Ret w fun u _ => u = .int .i64 0) := by
  refine enter Try.func104 rfl Try.ntmps104 (lbr rfl) fun a0 y0 zz0 harg => ?_
  have e0 : sl a0 0 = (.pointer (some ⟨bo, 0, none⟩)) := harg 0 (lbr rfl)
  have e1 : sl a0 1 = (.string (name)) := harg 1 (lbr rfl)
  have e2 : sl a0 2 = fv := harg 2 (lbr rfl)
  have kw := Keeps.refl All w
  clear harg
  refine wp_seq_k fun K1 hK1 => ?_
  refine rg mixed y0 zz0 ?_
  refine .i (sp_assign Has.cst) ?_
  refine .done ⟨by kernel_rfl, fun a2 g W2 y2 zz2 hk hg hV hR hP => ?_⟩
  obtain ⟨-, -⟩ := hV
  replace e0 := (hR 0 rfl).trans e0
  replace e1 := (hR 1 rfl).trans e1
  replace e2 := (hR 2 rfl).trans e2
  replace own_bo := own_bo.ext hk
  replace kw := kw.x hk
  clear hR hk hg hP
  refine tail_nil (hK1 _ _ ?_)
  refine wp_seq_k fun K3 hK3 => ?_
  refine rg mixed y2 zz2 ?_
  refine .i (sp_assign Has.cst) ?_
  refine .done ⟨by kernel_rfl, fun a4 g W4 y4 zz4 hk hg hV hR hP => ?_⟩
  obtain ⟨e7, -⟩ := hV
  replace e0 := (hR 0 rfl).trans e0
  replace e1 := (hR 1 rfl).trans e1
  replace e2 := (hR 2 rfl).trans e2
  have e7 : sl a4 7 = (.int .i64 (0)) := e7
  replace own_bo := own_bo.ext hk
  replace kw := kw.x hk
  clear hR hk hg hP
  refine tail_nil (hK3 _ _ ?_)
  refine wp_seq_k fun K5 hK5 => ?_
  refine wp_seq_k fun K6 hK6 => ?_
  refine rg mixed y4 zz4 ?_
  refine .i (sp_move (hbs rfl e0)) ?_
  refine .i (v := (.int .i64 (errK (k : Nat) e))) (sp_call1 (φ1 := Is (.pointer (some ⟨bo, 0, none⟩))) ent24 (hlc rfl) (fun g u1 W hk hgk h1 => by have h1 : u1 = _ := h1; subst u1; exact Err_ok _ _ _ _ _ _ _ W _ (own_bo.ext hk))) ?_
  refine .i (sp_neq (hlc rfl) Has.cst) ?_
  refine .done ⟨by kernel_rfl, fun a7 g W7 y7 zz7 hk hg hV hR hP => ?_⟩
  obtain ⟨e14, -, -, -⟩ := hV
  replace e0 := (hR 0 rfl).trans e0
  replace e1 := (hR 1 rfl).trans e1
  replace e2 := (hR 2 rfl).trans e2
  replace e7 := (hR 7 rfl).trans e7
  replace e14 := e14.q
  replace own_bo := own_bo.ext hk
  replace kw := kw.x hk
  clear hR hk hg hP
  refine tail_nil (hK6 _ _ ?_)
  refine wp_cond_split e14 (fun hc => ?_) (fun hc => ?_)
  ·
   refine wp_seq_k fun K8 hK8 => ?_
   refine rg mixed y7 zz7 ?_
   refine .i (sp_move (hbs rfl e7)) ?_
   refine .i (sp_assign (hlc rfl)) ?_
   refine .done ⟨by kernel_rfl, fun a9 g W9 y9 zz9 hk hg hV hR hP => ?_⟩
   obtain ⟨e6, -, -⟩ := hV
   have e6 : sl a9 6 = (.int .i64 (0)) := e6
   replace own_bo := own_bo.ext hk
   replace kw := kw.x hk
   clear hR hk hg hP
   refine tail_nil (hK8 _ _ ?_)
   refine wp_ret ?_
   refine (show bodyPost Try.prog Try.f104 _ .ret _ _ from ret1 rfl zz9 e6 ⟨_, rfl, kw, ?_⟩)
   exact rfl
  ·
   exfalso
   exact hE (by simpa using hc)

set_option maxRecDepth 100000 in
theorem TextsD_ok (k : Nat) (n : Int) (t : ByteArray) (cn ci mv : Value) (e : Int) (hE : errK k e ≠ 0) (name : ByteArray) (most : Int) (w : World) (bo : Nat) (own_bo : Own w bo [.int .u8 k, .int .i64 n, .string t, cn, ci, mv, .int .i64 e] 74) : Calls Try.prog 41 #[.pointer (some ⟨bo, 0, none⟩), .string name, .int .i64 most] w (Ret w fun u _ => u = .slice none 0 0) := by
  refine enter Try.func41 rfl Try.ntmps41 (lbr rfl) fun a0 y0 zz0 harg => ?_
  have e0 : sl a0 0 = (.pointer (some ⟨bo, 0, none⟩)) := harg 0 (lbr rfl)
  have e1 : sl a0 1 = (.string (name)) := harg 1 (lbr rfl)
  have e2 : sl a0 2 = (.int .i64 (most)) := harg 2 (lbr rfl)
  have kw := Keeps.refl All w
  clear harg
  refine wp_seq_k fun K1 hK1 => ?_
  refine rg mixed y0 zz0 ?_
  refine .boxOp (v := (.int .i64 (most))) (hbs rfl e2) ?_
  refine .i (sp_assign Has.cst) ?_
  refine .done ⟨by kernel_rfl, fun a2 g W2 y2 zz2 hk hg hV hR hP => ?_⟩
  obtain ⟨-, ⟨b5_2, e5, hb5, own_b5_2⟩, -⟩ := hV
  have lo_b5_2 : w.heap.size ≤ b5_2 := Nat.le_trans kw.size (hg.lo _ _ hb5)
  have ne_bo_b5_2 : bo ≠ b5_2 := Nat.ne_of_lt (Nat.lt_of_lt_of_le own_bo.lt (hg.lo _ _ hb5))
  have own_b5_2 : Own W2 b5_2 [(.int .i64 (most))] 3 := own_b5_2
  replace e0 := (hR 0 rfl).trans e0
  replace e1 := (hR 1 rfl).trans e1
  replace own_bo := own_bo.ext hk
  replace kw := kw.x hk
  clear hR hk hg hP hb5
  refine tail_nil (hK1 _ _ ?_)
  refine wp_seq_k fun K3 hK3 => ?_
  refine rg mixed y2 zz2 ?_
  refine .i (sp_move (hbs rfl e0)) ?_
  refine .i (sp_move (hbs rfl e1)) ?_
  refine .i (v := (.func (.func 99) #[] #[(.pointer (some ⟨b5_2, 0, none⟩))])) (sp_mkF1 (hbs rfl e5)) ?_
  refine .i (v := (.slice none 0 0)) (sp_call3 (φ1 := Is (.pointer (some ⟨bo, 0, none⟩))) (φ2 := Is (.string (name))) (φ3 := Is (.func (.func 99) #[] #[(.pointer (some ⟨b5_2, 0, none⟩))])) ent98 (hlc rfl) (hlc rfl) (hlc rfl) (fun g u1 u2 u3 W hk hgk h1 h2 h3 => by have h1 : u1 = _ := h1; subst u1; have h2 : u2 = _ := h2; subst u2; have h3 : u3 = _ := h3; subst u3; exact takeSD_ok _ _ _ _ _ _ _ hE _ _ W _ (own_bo.ext hk))) ?_
  refine .i (sp_assign (hlc rfl)) ?_
  refine .done ⟨by kernel_rfl, fun a4 g W4 y4 zz4 hk hg hV hR hP => ?_⟩
  obtain ⟨e6, -, -, -, -, -⟩ := hV
  have e6 : sl a4 6 = (.slice none 0 0) := e6
  replace own_bo := own_bo.ext hk
  replace own_b5_2 := own_b5_2.ext hk
  replace kw := kw.x hk
  clear hR hk hg hP
  refine tail_nil (hK3 _ _ ?_)
  refine wp_ret ?_
  refine (show bodyPost Try.prog Try.f41 _ .ret _ _ from ret1 rfl zz4 e6 ⟨_, rfl, kw, ?_⟩)
  exact rfl

set_option maxRecDepth 100000 in
theorem NumD_ok (k : Nat) (n : Int) (t : ByteArray) (cn ci mv : Value) (e : Int) (hE : errK k e ≠ 0) (name : ByteArray) (lo hi : Int) (w : World) (bo : Nat) (own_bo : Own w bo [.int .u8 k, .int .i64 n, .string t, cn, ci, mv, .int .i64 e] 74) : Calls Try.prog 44 #[.pointer (some ⟨bo, 0, none⟩), .string name, .int .i64 lo, .int .i64 hi] w (Ret w fun u _ => u = .int .i64 0) := by
  refine enter Try.func44 rfl Try.ntmps44 (lbr rfl) fun a0 y0 zz0 harg => ?_
  have e0 : sl a0 0 = (.pointer (some ⟨bo, 0, none⟩)) := harg 0 (lbr rfl)
  have e1 : sl a0 1 = (.string (name)) := harg 1 (lbr rfl)
  have e2 : sl a0 2 = (.int .i64 (lo)) := harg 2 (lbr rfl)
  have e3 : sl a0 3 = (.int .i64 (hi)) := harg 3 (lbr rfl)
  have kw := Keeps.refl All w
  clear harg
  refine wp_seq_k fun K1 hK1 => ?_
  refine rg mixed y0 zz0 ?_
  refine .boxOp (v := (.int .i64 (lo))) (hbs rfl e2) ?_
  refine .boxOp (v := (.int .i64 (hi))) (hbs rfl e3) ?_
  refine .i (sp_assign Has.cst) ?_
  refine .done ⟨by kernel_rfl, fun a2 g W2 y2 zz2 hk hg hV hR hP => ?_⟩
  obtain ⟨-, ⟨b7_2, e7, hb7, own_b7_2⟩, ⟨b6_2, e6, hb6, own_b6_2⟩, -⟩ := hV
  have lo_b7_2 : w.heap.size ≤ b7_2 := Nat.le_trans kw.size (hg.lo _ _ hb7)
  have ne_bo_b7_2 : bo ≠ b7_2 := Nat.ne_of_lt (Nat.lt_of_lt_of_le own_bo.lt (hg.lo _ _ hb7))
  have own_b7_2 : Own W2 b7_2 [(.int .i64 (hi))] 2 := own_b7_2
  have lo_b6_2 : w.heap.size ≤ b6_2 := Nat.le_trans kw.size (hg.lo _ _ hb6)
  have ne_bo_b6_2 : bo ≠ b6_2 := Nat.ne_of_lt (Nat.lt_of_lt_of_le own_bo.lt (hg.lo _ _ hb6))
  have own_b6_2 : Own W2 b6_2 [(.int .i64 (lo))] 2 := own_b6_2
  have ne_b7_2_b6_2 : b7_2 ≠ b6_2 := fun h => by have := hg.inj _ _ _ hb7 (h ▸ hb6); cases this
  replace e0 := (hR 0 rfl).trans e0
  replace e1 := (hR 1 rfl).trans e1
  replace own_bo := own_bo.ext hk
  replace kw := kw.x hk
  clear hR hk hg hP hb7 hb6
  refine tail_nil (hK1 _ _ ?_)
  refine wp_seq_k fun K3 hK3 => ?_
  refine rg mixed y2 zz2 ?_
  refine .i (sp_move (hbs rfl e0)) ?_
  refine .i (sp_move (hbs rfl e1)) ?_
  refine .i (v := (.func (.func 105) #[] #[(.pointer (some ⟨b6_2, 0, none⟩)), (.pointer (some ⟨b7_2, 0, none⟩))])) (sp_mkF2 (hbs rfl e6) (hbs rfl e7)) ?_
  refine .i (v := (.int .i64 (0))) (sp_call3 (φ1 := Is (.pointer (some ⟨bo, 0, none⟩))) (φ2 := Is (.string (name))) (φ3 := Is (.func (.func 105) #[] #[(.pointer (some ⟨b6_2, 0, none⟩)), (.pointer (some ⟨b7_2, 0, none⟩))])) ent104 (hlc rfl) (hlc rfl) (hlc rfl) (fun g u1 u2 u3 W hk hgk h1 h2 h3 => by have h1 : u1 = _ := h1; subst u1; have h2 : u2 = _ := h2; subst u2; have h3 : u3 = _ := h3; subst u3; exact takeID_ok _ _ _ _ _ _ _ hE _ _ W _ (own_bo.ext hk))) ?_
  refine .i (sp_assign (hlc rfl)) ?_
  refine .done ⟨by kernel_rfl, fun a4 g W4 y4 zz4 hk hg hV hR hP => ?_⟩
  obtain ⟨e8, -, -, -, -, -⟩ := hV
  have e8 : sl a4 8 = (.int .i64 (0)) := e8
  replace own_bo := own_bo.ext hk
  replace own_b7_2 := own_b7_2.ext hk
  replace own_b6_2 := own_b6_2.ext hk
  replace kw := kw.x hk
  clear hR hk hg hP
  refine tail_nil (hK3 _ _ ?_)
  refine wp_ret ?_
  refine (show bodyPost Try.prog Try.f44 _ .ret _ _ from ret1 rfl zz4 e8 ⟨_, rfl, kw, ?_⟩)
  exact rfl

set_option maxRecDepth 100000 in
theorem DoneD_ok (k : Nat) (n : Int) (t : ByteArray) (cn ci mv : Value) (e : Int) (hE : errK k e ≠ 0) (w : World) (bo : Nat) (own_bo : Own w bo [.int .u8 k, .int .i64 n, .string t, cn, ci, mv, .int .i64 e] 74) : Calls Try.prog 32 #[.pointer (some ⟨bo, 0, none⟩)] w (Ret w fun u _ => u = .int .i64 (errK k e)) := by
  refine enter Try.func32 rfl Try.ntmps32 (lbr rfl) fun a0 y0 zz0 harg => ?_
  have e0 : sl a0 0 = (.pointer (some ⟨bo, 0, none⟩)) := harg 0 (lbr rfl)
  have kw := Keeps.refl All w
  clear harg
  refine wp_seq_k fun K1 hK1 => ?_
  refine rg mixed y0 zz0 ?_
  refine .i (sp_assign Has.cst) ?_
  refine .done ⟨by kernel_rfl, fun a2 g W2 y2 zz2 hk hg hV hR hP => ?_⟩
  obtain ⟨-, -⟩ := hV
  replace e0 := (hR 0 rfl).trans e0
  replace own_bo := own_bo.ext hk
  replace kw := kw.x hk
  clear hR hk hg hP
  refine tail_nil (hK1 _ _ ?_)
  refine wp_seq_k fun K3 hK3 => ?_
  refine wp_seq_k fun K4 hK4 => ?_
  refine rg mixed y2 zz2 ?_
  refine .i (sp_move (hbs rfl e0)) ?_
  refine .i (v := (.int .i64 (errK (k : Nat) e))) (sp_call1 (φ1 := Is (.pointer (some ⟨bo, 0, none⟩))) ent24 (hlc rfl) (fun g u1 W hk hgk h1 => by have h1 : u1 = _ := h1; subst u1; exact Err_ok _ _ _ _ _ _ _ W _ (own_bo.ext hk))) ?_
  refine .i (sp_assign (hlc rfl)) ?_
  refine .done ⟨by kernel_rfl, fun a5 g W5 y5 zz5 hk hg hV hR hP => ?_⟩
  obtain ⟨e3, -, -, -⟩ := hV
  replace e0 := (hR 0 rfl).trans e0
  have e3 : sl a5 3 = (.int .i64 (errK (k : Nat) e)) := e3
  replace own_bo := own_bo.ext hk
  replace kw := kw.x hk
  clear hR hk hg hP
  refine tail_nil (hK4 _ _ ?_)
  refine wp_seq_k fun K6 hK6 => ?_
  refine rg mixed y5 zz5 ?_
  refine .i (sp_move (hbs rfl e3)) ?_
  refine .i (sp_neq (hlc rfl) Has.cst) ?_
  refine .done ⟨by kernel_rfl, fun a7 g W7 y7 zz7 hk hg hV hR hP => ?_⟩
  obtain ⟨e9, -, -⟩ := hV
  replace e0 := (hR 0 rfl).trans e0
  replace e3 := (hR 3 rfl).trans e3
  replace e9 := e9.q
  replace own_bo := own_bo.ext hk
  replace kw := kw.x hk
  clear hR hk hg hP
  refine tail_nil (hK6 _ _ ?_)
  refine wp_cond_split e9 (fun hc => ?_) (fun hc => ?_)
  ·
   refine wp_seq_k fun K8 hK8 => ?_
   refine rg mixed y7 zz7 ?_
   refine .i (sp_move (hbs rfl e3)) ?_
   refine .i (sp_assign (hlc rfl)) ?_
   refine .done ⟨by kernel_rfl, fun a9 g W9 y9 zz9 hk hg hV hR hP => ?_⟩
   obtain ⟨e2, -, -⟩ := hV
   have e2 : sl a9 2 = (.int .i64 (errK (k : Nat) e)) := e2
   replace own_bo := own_bo.ext hk
   replace kw := kw.x hk
   clear hR hk hg hP
   refine tail_nil (hK8 _ _ ?_)
   refine wp_ret ?_
   refine (show bodyPost Try.prog Try.f32 _ .ret _ _ from ret1 rfl zz9 e2 ⟨_, rfl, kw, ?_⟩)
   exact rfl
  ·
   exfalso
   exact hE (by simpa using hc)

set_option maxRecDepth 100000 in
theorem PartD_ok (k : Nat) (n : Int) (t : ByteArray) (cn ci mv : Value) (e : Int) (hE : errK k e ≠ 0) (w : World) (bo : Nat) (own_bo : Own w bo [.int .u8 k, .int .i64 n, .string t, cn, ci, mv, .int .i64 e] 74) : Calls Try.prog 23 #[.pointer (some ⟨bo, 0, none⟩)] w (RetL w [bo] fun u W => u = .agg #[.int .i64 0, .slice none 0 0] ∧ Own W bo [.int .u8 k, .int .i64 n, .string t, cn, ci, mv, .int .i64 e] 74) := by
  refine enter Try.func23 rfl Try.ntmps23 (lbr rfl) fun a0 y0 zz0 harg => ?_
  have e0 : sl a0 0 = (.pointer (some ⟨bo, 0, none⟩)) := harg 0 (lbr rfl)
  have kw := Keeps.refl (fun k => k ∉ [bo]) w
  clear harg
  refine wp_seq_k fun K1 hK1 => ?_
  refine rg mixed y0 zz0 ?_
  refine .alloc z27 ?_
  refine .done ⟨by kernel_rfl, fun a2 g W2 y2 zz2 hk hg hV hR hP => ?_⟩
  obtain ⟨⟨b2_2, e2, hb2, own_b2_2⟩, -⟩ := hV
  have lo_b2_2 : w.heap.size ≤ b2_2 := Nat.le_trans kw.size (hg.lo _ _ hb2)
  have ne_bo_b2_2 : bo ≠ b2_2 := Nat.ne_of_lt (Nat.lt_of_lt_of_le own_bo.lt (hg.lo _ _ hb2))
  have own_b2_2 : Own W2 b2_2 [(.int .i64 (0)), (.slice none 0 0)] 27 := own_b2_2
  replace e0 := (hR 0 rfl).trans e0
  replace own_bo := own_bo.ext hk
  replace kw := kw.x hk
  clear hR hk hg hP hb2
  refine tail_nil (hK1 _ _ ?_)
  refine wp_seq_k fun K3 hK3 => ?_
  refine rg mixed y2 zz2 ?_
  refine .i (sp_move (hbs rfl e0)) ?_
  refine .i (v := (.slice none 0 0)) (sp_call3 (φ1 := Is (.pointer (some ⟨bo, 0, none⟩))) (φ2 := Is (.string (⟨#[107, 101, 121, 105, 100, 115]⟩))) (φ3 := Is (.int .i64 (16))) ent41 (hlc rfl) Has.cst Has.cst (fun g u1 u2 u3 W hk hgk h1 h2 h3 => by have h1 : u1 = _ := h1; subst u1; have h2 : u2 = _ := h2; subst u2; have h3 : u3 = _ := h3; subst u3; exact TextsD_ok _ _ _ _ _ _ _ hE _ _ W _ (own_bo.ext hk))) ?_
  refine .i (sp_assign (hlc rfl)) ?_
  refine .done ⟨by kernel_rfl, fun a4 g W4 y4 zz4 hk hg hV hR hP => ?_⟩
  obtain ⟨e3, -, -, -⟩ := hV
  replace e0 := (hR 0 rfl).trans e0
  replace e2 := (hR 2 rfl).trans e2
  have e3 : sl a4 3 = (.slice none 0 0) := e3
  replace own_bo := own_bo.ext hk
  replace own_b2_2 := own_b2_2.ext hk
  replace kw := kw.x hk
  clear hR hk hg hP
  refine tail_nil (hK3 _ _ ?_)
  refine wp_seq_k fun K5 hK5 => ?_
  refine wp_seq_k fun K6 hK6 => ?_
  refine rg mixed y4 zz4 ?_
  refine .i (sp_move (hbs rfl e3)) ?_
  refine .i (sp_lenV Try.underlying23 (hlc rfl)) ?_
  refine .i (sp_eql (hlc rfl) Has.cst) ?_
  refine .done ⟨by kernel_rfl, fun a7 g W7 y7 zz7 hk hg hV hR hP => ?_⟩
  obtain ⟨e9, -, -, -⟩ := hV
  replace e0 := (hR 0 rfl).trans e0
  replace e2 := (hR 2 rfl).trans e2
  replace e3 := (hR 3 rfl).trans e3
  replace e9 := e9.q
  replace own_bo := own_bo.ext hk
  replace own_b2_2 := own_b2_2.ext hk
  replace kw := kw.x hk
  clear hR hk hg hP
  refine tail_nil (hK6 _ _ ?_)
  refine wp_cond_true (e9.trans (congrArg Value.bool (by decide))) ?_
  refine wp_reg (fun k => k ∉ [bo]) (Ψ := fun W => Own W bo [(.int .u8 ((k : Nat))), (.int .i64 (n)), (.string (t)), cn, ci, mv, (.int .i64 (e))] 74) mixed y7 zz7 stE_own own_bo ?_
  refine .i (sp_move (hbs rfl e0)) ?_
  refine .callL2 (φ1 := Is (.pointer (some ⟨bo, 0, none⟩))) (φ2 := Is (.int .i64 (4))) (φ := Is (.tuple #[])) (Ψ' := fun W => Own W bo [(.int .u8 ((k : Nat))), (.int .i64 (n)), (.string (t)), cn, ci, mv, (.int .i64 (e))] 74) ent22 (hlc rfl) Has.cst (st_is _) stE_own (fun g u1 u2 W hk hg h1 h2 hP => by have h1 : u1 = _ := h1; subst u1; have h2 : u2 = _ := h2; subst u2; exact (Fail_ok _ _ _ _ _ _ _ (4) W _ hP).mono (fun _ _ ⟨v, h1, h2, h3, h4⟩ => ⟨v, h1, h2, h3, by rw [failK_dead hE] at h4; exact h4⟩)) ?_
  refine .done ⟨by kernel_rfl, fun a8 g W8 y8 zz8 hk hg hV hR hP => ?_⟩
  obtain ⟨-, -, -⟩ := hV
  replace e0 := (hR 0 rfl).trans e0
  replace e2 := (hR 2 rfl).trans e2
  replace e3 := (hR 3 rfl).trans e3
  replace own_b2_2 := own_keepL own_b2_2 hk (by simp [ne_bo_b2_2.symm])
  have own_bo := hP
  replace own_bo : Own W8 bo [(.int .u8 ((k : Nat))), (.int .i64 (n)), (.string (t)), cn, ci, mv, (.int .i64 (e))] 74 := own_bo
  replace kw := keeps_L kw hk (in_cons (.inr (by simp)) in_nil)
  clear hR hk hg hP
  refine tail_nil (hK5 _ _ ?_)
  refine wp_seq_k fun K9 hK9 => ?_
  refine wp_reg (fun k => k ∉ [bo]) (Ψ := fun W => Own W bo [(.int .u8 ((k : Nat))), (.int .i64 (n)), (.string (t)), cn, ci, mv, (.int .i64 (e))] 74) mixed y8 zz8 stE_own own_bo ?_
  refine .i (sp_move (hbs rfl e0)) ?_
  refine .i (sp_move (hbs rfl e3)) ?_
  refine .i (v := (.int .i64 (wrongE [] ([])))) (sp_call1 (φ1 := IsD (SF w [b2_2, bo]) (strsD ([]))) ent77 ((hlc rfl).dat (rd_nil _ : Rd W8 (SF w [b2_2, bo]) (strsD ([])) _) (sub_nlF (by simp))) (fun g u1 W hk hgk h1 => wrong_ok ([]) W _ _ h1)) ?_
  refine .callL2 (φ1 := Is (.pointer (some ⟨bo, 0, none⟩))) (φ2 := Is (.int .i64 (wrongE [] ([])))) (φ := Is (.tuple #[])) (Ψ' := fun W => Own W bo [(.int .u8 ((k : Nat))), (.int .i64 (n)), (.string (t)), cn, ci, mv, (.int .i64 (e))] 74) ent22 (hlc rfl) (hlc rfl) (st_is _) stE_own (fun g u1 u2 W hk hg h1 h2 hP => by have h1 : u1 = _ := h1; subst u1; have h2 : u2 = _ := h2; subst u2; exact (Fail_ok _ _ _ _ _ _ _ (wrongE [] ([])) W _ hP).mono (fun _ _ ⟨v, h1, h2, h3, h4⟩ => ⟨v, h1, h2, h3, by rw [failK_dead hE] at h4; exact h4⟩)) ?_
  refine .done ⟨by kernel_rfl, fun a10 g W10 y10 zz10 hk hg hV hR hP => ?_⟩
  obtain ⟨-, -, -, -, -⟩ := hV
  replace e0 := (hR 0 rfl).trans e0
  replace e2 := (hR 2 rfl).trans e2
  replace e3 := (hR 3 rfl).trans e3
  replace own_b2_2 := own_keepL own_b2_2 hk (by simp [ne_bo_b2_2.symm])
  have own_bo := hP
  replace own_bo : Own W10 bo [(.int .u8 ((k : Nat))), (.int .i64 (n)), (.string (t)), cn, ci, mv, (.int .i64 (e))] 74 := own_bo
  replace kw := keeps_L kw hk (in_cons (.inr (by simp)) in_nil)
  clear hR hk hg hP
  refine tail_nil (hK9 _ _ ?_)
  refine wp_seq_k fun K11 hK11 => ?_
  refine rg mixed y10 zz10 ?_
  refine .i (sp_move (hbs rfl e0)) ?_
  refine .i (sp_move (hbs rfl e3)) ?_
  refine .i (sp_lenV Try.underlying23 (hlc rfl)) ?_
  refine .i (v := (.int .i64 (0))) (sp_call4 (φ1 := Is (.pointer (some ⟨bo, 0, none⟩))) (φ2 := Is (.string (⟨#[116, 104, 114, 101, 115, 104, 111, 108, 100]⟩))) (φ3 := Is (.int .i64 (1))) (φ4 := Is (.int .i64 (((0 : Nat) : Int)))) ent44 (hlc rfl) Has.cst Has.cst (hlc rfl) (fun g u1 u2 u3 u4 W hk hgk h1 h2 h3 h4 => by have h1 : u1 = _ := h1; subst u1; have h2 : u2 = _ := h2; subst u2; have h3 : u3 = _ := h3; subst u3; have h4 : u4 = _ := h4; subst u4; exact NumD_ok _ _ _ _ _ _ _ hE _ _ _ W _ (own_bo.ext hk))) ?_
  refine .i (sp_assign (hlc rfl)) ?_
  refine .done ⟨by kernel_rfl, fun a12 g W12 y12 zz12 hk hg hV hR hP => ?_⟩
  obtain ⟨e4, -, -, -, -, -⟩ := hV
  replace e0 := (hR 0 rfl).trans e0
  replace e2 := (hR 2 rfl).trans e2
  replace e3 := (hR 3 rfl).trans e3
  have e4 : sl a12 4 = (.int .i64 (0)) := e4
  replace own_bo := own_bo.ext hk
  replace own_b2_2 := own_b2_2.ext hk
  replace kw := kw.x hk
  clear hR hk hg hP
  refine tail_nil (hK11 _ _ ?_)
  refine wp_seq_k fun K13 hK13 => ?_
  refine wp_seq_k fun K14 hK14 => ?_
  refine rg mixed y12 zz12 ?_
  refine .i (sp_move (hbs rfl e0)) ?_
  refine .i (v := (.int .i64 (errK (k : Nat) e))) (sp_call1 (φ1 := Is (.pointer (some ⟨bo, 0, none⟩))) ent24 (hlc rfl) (fun g u1 W hk hgk h1 => by have h1 : u1 = _ := h1; subst u1; exact Err_ok _ _ _ _ _ _ _ W _ (own_bo.ext hk))) ?_
  refine .i (sp_neq (hlc rfl) Has.cst) ?_
  refine .done ⟨by kernel_rfl, fun a15 g W15 y15 zz15 hk hg hV hR hP => ?_⟩
  obtain ⟨e22, -, -, -⟩ := hV
  replace e2 := (hR 2 rfl).trans e2
  replace e3 := (hR 3 rfl).trans e3
  replace e4 := (hR 4 rfl).trans e4
  replace e22 := e22.q
  replace own_bo := own_bo.ext hk
  replace own_b2_2 := own_b2_2.ext hk
  replace kw := kw.x hk
  clear hR hk hg hP
  refine tail_nil (hK14 _ _ ?_)
  refine wp_cond_split e22 (fun hc => ?_) (fun hc => ?_)
  ·
   refine wp_seq_k fun K16 hK16 => ?_
   refine rg mixed y15 zz15 ?_
   refine .i (v := (.agg #[(.int .i64 (0)), (.slice none 0 0)])) (sp_build (vs := []) Try.underlying27 z27 (pl27 Try.underlying27) trivial rfl) ?_
   refine .done ⟨by kernel_rfl, fun a17 g W17 y17 zz17 hk hg hV hR hP => ?_⟩
   obtain ⟨e23, -⟩ := hV
   replace e2 := (hR 2 rfl).trans e2
   replace e23 := e23.q
   replace own_bo := own_bo.ext hk
   replace own_b2_2 := own_b2_2.ext hk
   replace kw := kw.x hk
   clear hR hk hg hP
   refine tail_store (b := b2_2) (o := 0) (v := (.agg #[(.int .i64 (0)), (.slice none 0 0)])) e2 e23 sz27 rfl own_b2_2 (lbr rfl) (all_cons rfl (all_cons rfl all_nil)) (fun W18 hs own_b2_2 => ?_)
   have own_b2_2 : Own W18 b2_2 [(.int .i64 (0)), (.slice none 0 0)] 27 := own_b2_2
   replace own_bo := own_store own_bo hs ne_bo_b2_2
   replace kw := keeps_store kw hs lo_b2_2
   clear hs
   refine tail_nil (hK16 _ _ ?_)
   refine wp_ret ?_
   refine (show bodyPost Try.prog Try.f23 _ .ret _ _ from retC (v := (.agg #[(.int .i64 (0)), (.slice none 0 0)])) rfl zz17 e2 own_b2_2 agg27 sz27 rfl (fun h => by cases h) rfl ⟨_, rfl, kw, ?_⟩)
   exact ⟨rfl, own_bo⟩
  ·
   exfalso
   exact hE (by simpa using hc)

set_option maxRecDepth 100000 in
theorem Part_ok (x : V) (A : As) (e : Int) (hA : AB 1000 A) (hx : x.wt ≤ 1073741824) (hxt : x.t.size ≤ maxLen) (w : World) (S : BSet) (cn ci : Value) (bo bm : Nat) (hS : ∀ b o, S b o → Cln o) (hM : ∀ b ∈ [bo, bm], ∀ o, ¬ S b o) (hne : bo ≠ bm) (hv : Rd w S (strsD x.ns) cn) (hu : Rd w S (valsD x.xs) ci) (own_bo : Own w bo [.int .u8 x.k, .int .i64 x.n, .string x.t, cn, ci, .map (some bm), .int .i64 (e)] 74) (own_bm : OwnM w bm A) : Calls Try.prog 23 #[.pointer (some ⟨bo, 0, none⟩)] w (RetL w [bo, bm] fun u W => Rd W (Fr w) (partA x e).d u ∧ Own W bo [.int .u8 x.k, .int .i64 x.n, .string x.t, cn, ci, .map (some bm), .int .i64 (partE x e)] 74 ∧ OwnM W bm (partM x A e)) := by
  obtain ⟨cna, cnc, ev, D_cn⟩ := rdS_out (rd_argM (M := [bo, bm]) hv hM)
  subst ev
  obtain ⟨cia, cic, ev, D_ci⟩ := rdVs_out (rd_argM (M := [bo, bm]) hu hM)
  subst ev
  refine enter Try.func23 rfl Try.ntmps23 (lbr rfl) fun a0 y0 zz0 harg => ?_
  have e0 : sl a0 0 = (.pointer (some ⟨bo, 0, none⟩)) := harg 0 (lbr rfl)
  have kw := Keeps.refl (fun k => k ∉ [bo, bm]) w
  clear harg
  refine wp_seq_k fun K1 hK1 => ?_
  refine rg mixed y0 zz0 ?_
  refine .alloc z27 ?_
  refine .done ⟨by kernel_rfl, fun a2 g W2 y2 zz2 hk hg hV hR hP => ?_⟩
  obtain ⟨⟨b2_2, e2, hb2, own_b2_2⟩, -⟩ := hV
  have lo_b2_2 : w.heap.size ≤ b2_2 := Nat.le_trans kw.size (hg.lo _ _ hb2)
  have ne_bo_b2_2 : bo ≠ b2_2 := Nat.ne_of_lt (Nat.lt_of_lt_of_le own_bo.lt (hg.lo _ _ hb2))
  have ne_bm_b2_2 : bm ≠ b2_2 := Nat.ne_of_lt (Nat.lt_of_lt_of_le own_bm.lt (hg.lo _ _ hb2))
  have own_b2_2 : Own W2 b2_2 [(.int .i64 (0)), (.slice none 0 0)] 27 := own_b2_2
  replace e0 := (hR 0 rfl).trans e0
  replace D_cn := sa_more D_cn hk [b2_2] (in_cons (hg.lo _ _ hb2) in_nil)
  replace D_ci := sa_more D_ci hk [b2_2] (in_cons (hg.lo _ _ hb2) in_nil)
  replace own_bo := own_bo.ext hk
  replace own_bm := own_bm.ext hk
  replace kw := kw.x hk
  clear hR hk hg hP hb2
  refine tail_nil (hK1 _ _ ?_)
  refine wp_seq_k fun K3 hK3 => ?_
  refine wp_reg (fun k => k ∉ [bo, bm]) (Ψ := fun W => Own W bo [(.int .u8 (x.k)), (.int .i64 (x.n)), (.string (x.t)), (.slice cna (x.ns.length) cnc), (.slice cia (x.xs.length) cic), (.map (some bm)), (.int .i64 (e))] 74 ∧ OwnM W bm (A)) mixed y2 zz2 (stE_and stE_own stE_ownM) ⟨own_bo, own_bm⟩ ?_
  refine .i (sp_move (hbs rfl e0)) ?_
  refine .callL3 (φ1 := Is (.pointer (some ⟨bo, 0, none⟩))) (φ2 := Is (.string (⟨#[107, 101, 121, 105, 100, 115]⟩))) (φ3 := Is (.int .i64 (16))) (φ := IsD (Fr W2) (strsD (if tkB x e ⟨#[107, 101, 121, 105, 100, 115]⟩ (textsE 16) then textsL 16 (getV x ⟨#[107, 101, 121, 105, 100, 115]⟩) else []))) (Ψ' := fun W => Own W bo [(.int .u8 (x.k)), (.int .i64 (x.n)), (.string (x.t)), (.slice cna (x.ns.length) cnc), (.slice cia (x.xs.length) cic), (.map (some bm)), (.int .i64 (tkE x e ⟨#[107, 101, 121, 105, 100, 115]⟩ (textsE 16)))] 74 ∧ OwnM W bm (tkA x A e ⟨#[107, 101, 121, 105, 100, 115]⟩ (textsE 16))) ent41 (hlc rfl) Has.cst Has.cst (st_d (sub_frnl (in_cons own_bo.lt (in_cons own_bm.lt in_nil)))) (stE_and stE_own stE_ownM) (fun g u1 u2 u3 W hk hg h1 h2 h3 hP => by have h1 : u1 = _ := h1; subst u1; have h2 : u2 = _ := h2; subst u2; have h3 : u3 = _ := h3; subst u3; exact (Texts_ok (x) (A) (e) (hA.mono (by omega)) hx hxt ⟨#[107, 101, 121, 105, 100, 115]⟩ 16 W _ _ _ _ _ (sa_cln hS) (sa_notin (by simp)) hne (sa_keepL D_cn hk (by simp)) (sa_keepL D_ci hk (by simp)) hP.1 hP.2).mono (fun _ _ ⟨v, h1, h2, h3, h4⟩ => ⟨v, h1, h2, fresh_d hk hg h3, h4⟩)) ?_
  refine .op (φ := IsD (Fr W2) (strsD (if tkB x e ⟨#[107, 101, 121, 105, 100, 115]⟩ (textsE 16) then textsL 16 (getV x ⟨#[107, 101, 121, 105, 100, 115]⟩) else []))) (st_d (sub_frnl (in_cons own_bo.lt (in_cons own_bm.lt in_nil)))) (sp_assign (hlc rfl)) ?_
  refine .done ⟨by kernel_rfl, fun a4 g W4 y4 zz4 hk hg hV hR hP => ?_⟩
  obtain ⟨e3, -, -, -⟩ := hV
  replace e0 := (hR 0 rfl).trans e0
  replace e2 := (hR 2 rfl).trans e2
  obtain ⟨v3_4, ev⟩ : ∃ v, sl a4 3 = v := ⟨_, rfl⟩
  rw [ev] at e3
  have D_v3_4 : Rd W4 (SF w [b2_2, bo, bm]) (strsD (if tkB x e ⟨#[107, 101, 121, 105, 100, 115]⟩ (textsE 16) then textsL 16 (getV x ⟨#[107, 101, 121, 105, 100, 115]⟩) else [])) v3_4 := fr_end (M := [b2_2, bo, bm]) e3 kw [] in_nil (in_cons own_b2_2.lt (in_cons own_bo.lt (in_cons own_bm.lt in_nil)))
  replace e3 := ev; clear ev
  obtain ⟨v3_4a, v3_4c, ev, D2⟩ := rdS_out D_v3_4
  subst ev; replace D_v3_4 := D2; clear D2
  replace D_cn := sa_keepL D_cn hk (by simp)
  replace D_ci := sa_keepL D_ci hk (by simp)
  replace own_b2_2 := own_keepL own_b2_2 hk (by simp [ne_bo_b2_2.symm, ne_bm_b2_2.symm])
  obtain ⟨own_bo, own_bm⟩ := hP
  replace own_bo : Own W4 bo [(.int .u8 (x.k)), (.int .i64 (x.n)), (.string (x.t)), (.slice cna (x.ns.length) cnc), (.slice cia (x.xs.length) cic), (.map (some bm)), (.int .i64 (tkE x e ⟨#[107, 101, 121, 105, 100, 115]⟩ (textsE 16)))] 74 := own_bo
  replace own_bm : OwnM W4 bm (tkA x A e ⟨#[107, 101, 121, 105, 100, 115]⟩ (textsE 16)) := own_bm
  replace kw := keeps_L kw hk (in_cons (.inr (by simp)) (in_cons (.inr (by simp)) in_nil))
  clear hR hk hg
  refine tail_nil (hK3 _ _ ?_)
  refine wp_seq_k fun K5 hK5 => ?_
  refine wp_seq_k fun K6 hK6 => ?_
  refine rg mixed y4 zz4 ?_
  refine .i (sp_move (hbs rfl e3)) ?_
  refine .i (sp_lenSs Try.underlying23 ((hlc rfl).dat D_v3_4 sub_all)) ?_
  refine .i (sp_eql (hlc rfl) Has.cst) ?_
  refine .done ⟨by kernel_rfl, fun a7 g W7 y7 zz7 hk hg hV hR hP => ?_⟩
  obtain ⟨e9, -, -, -⟩ := hV
  replace e0 := (hR 0 rfl).trans e0
  replace e2 := (hR 2 rfl).trans e2
  replace e3 := (hR 3 rfl).trans e3
  replace D_cn := D_cn.ext hk
  replace D_ci := D_ci.ext hk
  replace D_v3_4 := D_v3_4.ext hk
  replace e9 := e9.q
  replace own_bo := own_bo.ext hk
  replace own_bm := own_bm.ext hk
  replace own_b2_2 := own_b2_2.ext hk
  replace kw := kw.x hk
  clear hR hk hg hP
  refine tail_nil (hK6 _ _ ?_)
  refine wp_cond_split e9 (fun hc => ?_) (fun hc => ?_)
  ·
   have hl : (idsP x e).length = 0 := by have h := eq_of_beq hc; unfold idsP; omega
   have h2 : e2P x e = failK x.k (e1P x e) 4 := by rw [e2P, if_pos hl]
   refine wp_reg (fun k => k ∉ [bo]) (Ψ := fun W => Own W bo [(.int .u8 (x.k)), (.int .i64 (x.n)), (.string (x.t)), (.slice cna (x.ns.length) cnc), (.slice cia (x.xs.length) cic), (.map (some bm)), (.int .i64 (tkE x e ⟨#[107, 101, 121, 105, 100, 115]⟩ (textsE 16)))] 74) mixed y7 zz7 stE_own own_bo ?_
   refine .i (sp_move (hbs rfl e0)) ?_
   refine .callL2 (φ1 := Is (.pointer (some ⟨bo, 0, none⟩))) (φ2 := Is (.int .i64 (4))) (φ := Is (.tuple #[])) (Ψ' := fun W => Own W bo [(.int .u8 (x.k)), (.int .i64 (x.n)), (.string (x.t)), (.slice cna (x.ns.length) cnc), (.slice cia (x.xs.length) cic), (.map (some bm)), (.int .i64 (failK x.k (tkE x e ⟨#[107, 101, 121, 105, 100, 115]⟩ (textsE 16)) 4))] 74) ent22 (hlc rfl) Has.cst (st_is _) stE_own (fun g u1 u2 W hk hg h1 h2 hP => by have h1 : u1 = _ := h1; subst u1; have h2 : u2 = _ := h2; subst u2; exact (Fail_ok _ _ _ _ _ _ _ (4) W _ hP)) ?_
   refine .done ⟨by kernel_rfl, fun a8 g W8 y8 zz8 hk hg hV hR hP => ?_⟩
   obtain ⟨-, -, -⟩ := hV
   replace e0 := (hR 0 rfl).trans e0
   replace e2 := (hR 2 rfl).trans e2
   replace e3 := (hR 3 rfl).trans e3
   replace D_cn := sa_keepL D_cn hk (by simp)
   replace D_ci := sa_keepL D_ci hk (by simp)
   replace D_v3_4 := sf_keepL D_v3_4 hk (by simp)
   replace own_bm := ownM_keepL own_bm hk (by simp [hne.symm])
   replace own_b2_2 := own_keepL own_b2_2 hk (by simp [ne_bo_b2_2.symm])
   have own_bo := hP
   replace own_bo : Own W8 bo [(.int .u8 (x.k)), (.int .i64 (x.n)), (.string (x.t)), (.slice cna (x.ns.length) cnc), (.slice cia (x.xs.length) cic), (.map (some bm)), (.int .i64 (failK x.k (tkE x e ⟨#[107, 101, 121, 105, 100, 115]⟩ (textsE 16)) 4))] 74 := own_bo
   replace kw := keeps_L kw hk (in_cons (.inr (by simp)) in_nil)
   clear hR hk hg hP
   refine tail_nil (hK5 _ _ ?_)
   refine wp_seq_k fun K9 hK9 => ?_
   refine wp_reg (fun k => k ∉ [bo]) (Ψ := fun W => Own W bo [(.int .u8 (x.k)), (.int .i64 (x.n)), (.string (x.t)), (.slice cna (x.ns.length) cnc), (.slice cia (x.xs.length) cic), (.map (some bm)), (.int .i64 (failK x.k (tkE x e ⟨#[107, 101, 121, 105, 100, 115]⟩ (textsE 16)) 4))] 74) mixed y8 zz8 stE_own own_bo ?_
   refine .i (sp_move (hbs rfl e0)) ?_
   refine .i (sp_move (hbs rfl e3)) ?_
   refine .i (v := (.int .i64 (wrongE [] (if tkB x e ⟨#[107, 101, 121, 105, 100, 115]⟩ (textsE 16) then textsL 16 (getV x ⟨#[107, 101, 121, 105, 100, 115]⟩) else [])))) (sp_call1 (φ1 := IsD (SF w [b2_2, bo, bm]) (strsD (if tkB x e ⟨#[107, 101, 121, 105, 100, 115]⟩ (textsE 16) then textsL 16 (getV x ⟨#[107, 101, 121, 105, 100, 115]⟩) else []))) ent77 ((hlc rfl).dat D_v3_4 (sub_nlF (by simp))) (fun g u1 W hk hgk h1 => wrong_ok (if tkB x e ⟨#[107, 101, 121, 105, 100, 115]⟩ (textsE 16) then textsL 16 (getV x ⟨#[107, 101, 121, 105, 100, 115]⟩) else []) W _ _ h1)) ?_
   refine .callL2 (φ1 := Is (.pointer (some ⟨bo, 0, none⟩))) (φ2 := Is (.int .i64 (wrongE [] (if tkB x e ⟨#[107, 101, 121, 105, 100, 115]⟩ (textsE 16) then textsL 16 (getV x ⟨#[107, 101, 121, 105, 100, 115]⟩) else [])))) (φ := Is (.tuple #[])) (Ψ' := fun W => Own W bo [(.int .u8 (x.k)), (.int .i64 (x.n)), (.string (x.t)), (.slice cna (x.ns.length) cnc), (.slice cia (x.xs.length) cic), (.map (some bm)), (.int .i64 (failK x.k (failK x.k (tkE x e ⟨#[107, 101, 121, 105, 100, 115]⟩ (textsE 16)) 4) (wrongE [] (if tkB x e ⟨#[107, 101, 121, 105, 100, 115]⟩ (textsE 16) then textsL 16 (getV x ⟨#[107, 101, 121, 105, 100, 115]⟩) else []))))] 74) ent22 (hlc rfl) (hlc rfl) (st_is _) stE_own (fun g u1 u2 W hk hg h1 h2 hP => by have h1 : u1 = _ := h1; subst u1; have h2 : u2 = _ := h2; subst u2; exact (Fail_ok _ _ _ _ _ _ _ (wrongE [] (if tkB x e ⟨#[107, 101, 121, 105, 100, 115]⟩ (textsE 16) then textsL 16 (getV x ⟨#[107, 101, 121, 105, 100, 115]⟩) else [])) W _ hP)) ?_
   refine .done ⟨by kernel_rfl, fun a10 g W10 y10 zz10 hk hg hV hR hP => ?_⟩
   obtain ⟨-, -, -, -, -⟩ := hV
   replace e0 := (hR 0 rfl).trans e0
   replace e2 := (hR 2 rfl).trans e2
   replace e3 := (hR 3 rfl).trans e3
   replace D_cn := sa_keepL D_cn hk (by simp)
   replace D_ci := sa_keepL D_ci hk (by simp)
   replace D_v3_4 := sf_keepL D_v3_4 hk (by simp)
   replace own_bm := ownM_keepL own_bm hk (by simp [hne.symm])
   replace own_b2_2 := own_keepL own_b2_2 hk (by simp [ne_bo_b2_2.symm])
   have own_bo := hP
   replace own_bo : Own W10 bo [(.int .u8 (x.k)), (.int .i64 (x.n)), (.string (x.t)), (.slice cna (x.ns.length) cnc), (.slice cia (x.xs.length) cic), (.map (some bm)), (.int .i64 (failK x.k (failK x.k (tkE x e ⟨#[107, 101, 121, 105, 100, 115]⟩ (textsE 16)) 4) (wrongE [] (if tkB x e ⟨#[107, 101, 121, 105, 100, 115]⟩ (textsE 16) then textsL 16 (getV x ⟨#[107, 101, 121, 105, 100, 115]⟩) else []))))] 74 := own_bo
   replace kw := keeps_L kw hk (in_cons (.inr (by simp)) in_nil)
   clear hR hk hg hP
   refine tail_nil (hK9 _ _ ?_)
   refine wp_seq_k fun K11 hK11 => ?_
   refine wp_reg (fun k => k ∉ [bo, bm]) (Ψ := fun W => Own W bo [(.int .u8 (x.k)), (.int .i64 (x.n)), (.string (x.t)), (.slice cna (x.ns.length) cnc), (.slice cia (x.xs.length) cic), (.map (some bm)), (.int .i64 (failK x.k (failK x.k (tkE x e ⟨#[107, 101, 121, 105, 100, 115]⟩ (textsE 16)) 4) (wrongE [] (if tkB x e ⟨#[107, 101, 121, 105, 100, 115]⟩ (textsE 16) then textsL 16 (getV x ⟨#[107, 101, 121, 105, 100, 115]⟩) else []))))] 74 ∧ OwnM W bm (tkA x A e ⟨#[107, 101, 121, 105, 100, 115]⟩ (textsE 16))) mixed y10 zz10 (stE_and stE_own stE_ownM) ⟨own_bo, own_bm⟩ ?_
   refine .i (sp_move (hbs rfl e0)) ?_
   refine .i (sp_move (hbs rfl e3)) ?_
   refine .i (sp_lenSs Try.underlying23 ((hlc rfl).dat D_v3_4 (sub_nlF (by simp)))) ?_
   refine .callL4 (φ1 := Is (.pointer (some ⟨bo, 0, none⟩))) (φ2 := Is (.string (⟨#[116, 104, 114, 101, 115, 104, 111, 108, 100]⟩))) (φ3 := Is (.int .i64 (1))) (φ4 := Is (.int .i64 ((if tkB x e ⟨#[107, 101, 121, 105, 100, 115]⟩ (textsE 16) then textsL 16 (getV x ⟨#[107, 101, 121, 105, 100, 115]⟩) else []).length))) (φ := Is (.int .i64 (if tkB x (failK x.k (failK x.k (tkE x e ⟨#[107, 101, 121, 105, 100, 115]⟩ (textsE 16)) 4) (wrongE [] (if tkB x e ⟨#[107, 101, 121, 105, 100, 115]⟩ (textsE 16) then textsL 16 (getV x ⟨#[107, 101, 121, 105, 100, 115]⟩) else []))) ⟨#[116, 104, 114, 101, 115, 104, 111, 108, 100]⟩ (numE 1 ((if tkB x e ⟨#[107, 101, 121, 105, 100, 115]⟩ (textsE 16) then textsL 16 (getV x ⟨#[107, 101, 121, 105, 100, 115]⟩) else []).length)) then numV 1 ((if tkB x e ⟨#[107, 101, 121, 105, 100, 115]⟩ (textsE 16) then textsL 16 (getV x ⟨#[107, 101, 121, 105, 100, 115]⟩) else []).length) (getV x ⟨#[116, 104, 114, 101, 115, 104, 111, 108, 100]⟩) else 0))) (Ψ' := fun W => Own W bo [(.int .u8 (x.k)), (.int .i64 (x.n)), (.string (x.t)), (.slice cna (x.ns.length) cnc), (.slice cia (x.xs.length) cic), (.map (some bm)), (.int .i64 (tkE x (failK x.k (failK x.k (tkE x e ⟨#[107, 101, 121, 105, 100, 115]⟩ (textsE 16)) 4) (wrongE [] (if tkB x e ⟨#[107, 101, 121, 105, 100, 115]⟩ (textsE 16) then textsL 16 (getV x ⟨#[107, 101, 121, 105, 100, 115]⟩) else []))) ⟨#[116, 104, 114, 101, 115, 104, 111, 108, 100]⟩ (numE 1 ((if tkB x e ⟨#[107, 101, 121, 105, 100, 115]⟩ (textsE 16) then textsL 16 (getV x ⟨#[107, 101, 121, 105, 100, 115]⟩) else []).length))))] 74 ∧ OwnM W bm (tkA x (tkA x A e ⟨#[107, 101, 121, 105, 100, 115]⟩ (textsE 16)) (failK x.k (failK x.k (tkE x e ⟨#[107, 101, 121, 105, 100, 115]⟩ (textsE 16)) 4) (wrongE [] (if tkB x e ⟨#[107, 101, 121, 105, 100, 115]⟩ (textsE 16) then textsL 16 (getV x ⟨#[107, 101, 121, 105, 100, 115]⟩) else []))) ⟨#[116, 104, 114, 101, 115, 104, 111, 108, 100]⟩ (numE 1 ((if tkB x e ⟨#[107, 101, 121, 105, 100, 115]⟩ (textsE 16) then textsL 16 (getV x ⟨#[107, 101, 121, 105, 100, 115]⟩) else []).length)))) ent44 (hlc rfl) Has.cst Has.cst (hlc rfl) (st_is _) (stE_and stE_own stE_ownM) (fun g u1 u2 u3 u4 W hk hg h1 h2 h3 h4 hP => by have h1 : u1 = _ := h1; subst u1; have h2 : u2 = _ := h2; subst u2; have h3 : u3 = _ := h3; subst u3; have h4 : u4 = _ := h4; subst u4; exact (Num_ok (x) (tkA x A e ⟨#[107, 101, 121, 105, 100, 115]⟩ (textsE 16)) (failK x.k (failK x.k (tkE x e ⟨#[107, 101, 121, 105, 100, 115]⟩ (textsE 16)) 4) (wrongE [] (if tkB x e ⟨#[107, 101, 121, 105, 100, 115]⟩ (textsE 16) then textsL 16 (getV x ⟨#[107, 101, 121, 105, 100, 115]⟩) else []))) (hA.tk.mono (by omega)) hx hxt ⟨#[116, 104, 114, 101, 115, 104, 111, 108, 100]⟩ 1 ((if tkB x e ⟨#[107, 101, 121, 105, 100, 115]⟩ (textsE 16) then textsL 16 (getV x ⟨#[107, 101, 121, 105, 100, 115]⟩) else []).length) W _ _ _ _ _ (sa_cln hS) (sa_notin (by simp)) hne (sa_keepL D_cn hk (by simp)) (sa_keepL D_ci hk (by simp)) hP.1 hP.2)) ?_
   refine .i (sp_assign (hlc rfl)) ?_
   refine .done ⟨by kernel_rfl, fun a12 g W12 y12 zz12 hk hg hV hR hP => ?_⟩
   obtain ⟨e4, -, -, -, -, -⟩ := hV
   replace e0 := (hR 0 rfl).trans e0
   replace e2 := (hR 2 rfl).trans e2
   replace e3 := (hR 3 rfl).trans e3
   replace e4 := e4.q
   replace D_cn := sa_keepL D_cn hk (by simp)
   replace D_ci := sa_keepL D_ci hk (by simp)
   replace D_v3_4 := sf_keepL D_v3_4 hk (by simp)
   replace own_b2_2 := own_keepL own_b2_2 hk (by simp [ne_bo_b2_2.symm, ne_bm_b2_2.symm])
   obtain ⟨own_bo, own_bm⟩ := hP
   replace own_bo : Own W12 bo [(.int .u8 (x.k)), (.int .i64 (x.n)), (.string (x.t)), (.slice cna (x.ns.length) cnc), (.slice cia (x.xs.length) cic), (.map (some bm)), (.int .i64 (tkE x (failK x.k (failK x.k (tkE x e ⟨#[107, 101, 121, 105, 100, 115]⟩ (textsE 16)) 4) (wrongE [] (if tkB x e ⟨#[107, 101, 121, 105, 100, 115]⟩ (textsE 16) then textsL 16 (getV x ⟨#[107, 101, 121, 105, 100, 115]⟩) else []))) ⟨#[116, 104, 114, 101, 115, 104, 111, 108, 100]⟩ (numE 1 ((if tkB x e ⟨#[107, 101, 121, 105, 100, 115]⟩ (textsE 16) then textsL 16 (getV x ⟨#[107, 101, 121, 105, 100, 115]⟩) else []).length))))] 74 := own_bo
   replace own_bm : OwnM W12 bm (tkA x (tkA x A e ⟨#[107, 101, 121, 105, 100, 115]⟩ (textsE 16)) (failK x.k (failK x.k (tkE x e ⟨#[107, 101, 121, 105, 100, 115]⟩ (textsE 16)) 4) (wrongE [] (if tkB x e ⟨#[107, 101, 121, 105, 100, 115]⟩ (textsE 16) then textsL 16 (getV x ⟨#[107, 101, 121, 105, 100, 115]⟩) else []))) ⟨#[116, 104, 114, 101, 115, 104, 111, 108, 100]⟩ (numE 1 ((if tkB x e ⟨#[107, 101, 121, 105, 100, 115]⟩ (textsE 16) then textsL 16 (getV x ⟨#[107, 101, 121, 105, 100, 115]⟩) else []).length))) := own_bm
   replace kw := keeps_L kw hk (in_cons (.inr (by simp)) (in_cons (.inr (by simp)) in_nil))
   clear hR hk hg
   refine tail_nil (hK11 _ _ ?_)
   refine wp_seq_k fun K13 hK13 => ?_
   refine wp_seq_k fun K14 hK14 => ?_
   refine rg mixed y12 zz12 ?_
   refine .i (sp_move (hbs rfl e0)) ?_
   refine .i (v := (.int .i64 (errK x.k (tkE x (failK x.k (failK x.k (tkE x e ⟨#[107, 101, 121, 105, 100, 115]⟩ (textsE 16)) 4) (wrongE [] (if tkB x e ⟨#[107, 101, 121, 105, 100, 115]⟩ (textsE 16) then textsL 16 (getV x ⟨#[107, 101, 121, 105, 100, 115]⟩) else []))) ⟨#[116, 104, 114, 101, 115, 104, 111, 108, 100]⟩ (numE 1 ((if tkB x e ⟨#[107, 101, 121, 105, 100, 115]⟩ (textsE 16) then textsL 16 (getV x ⟨#[107, 101, 121, 105, 100, 115]⟩) else []).length)))))) (sp_call1 (φ1 := Is (.pointer (some ⟨bo, 0, none⟩))) ent24 (hlc rfl) (fun g u1 W hk hgk h1 => by have h1 : u1 = _ := h1; subst u1; exact Err_ok _ _ _ _ _ _ _ W _ (own_bo.ext hk))) ?_
   refine .i (sp_neq (hlc rfl) Has.cst) ?_
   refine .done ⟨by kernel_rfl, fun a15 g W15 y15 zz15 hk hg hV hR hP => ?_⟩
   obtain ⟨e22, -, -, -⟩ := hV
   replace e2 := (hR 2 rfl).trans e2
   replace e3 := (hR 3 rfl).trans e3
   replace e4 := (hR 4 rfl).trans e4
   replace D_cn := D_cn.ext hk
   replace D_ci := D_ci.ext hk
   replace D_v3_4 := D_v3_4.ext hk
   replace e22 := e22.q
   replace own_bo := own_bo.ext hk
   replace own_bm := own_bm.ext hk
   replace own_b2_2 := own_b2_2.ext hk
   replace kw := kw.x hk
   clear hR hk hg hP
   refine tail_nil (hK14 _ _ ?_)
   refine wp_cond_split e22 (fun hc => ?_) (fun hc => ?_)
   ·
    have hE := bne_iff_ne.1 hc
    refine wp_seq_k fun K16 hK16 => ?_
    refine rg mixed y15 zz15 ?_
    refine .i (v := (.agg #[(.int .i64 (0)), (.slice none 0 0)])) (sp_build (vs := []) Try.underlying27 z27 (pl27 Try.underlying27) trivial rfl) ?_
    refine .done ⟨by kernel_rfl, fun a17 g W17 y17 zz17 hk hg hV hR hP => ?_⟩
    obtain ⟨e23, -⟩ := hV
    replace e2 := (hR 2 rfl).trans e2
    replace D_cn := D_cn.ext hk
    replace D_ci := D_ci.ext hk
    replace D_v3_4 := D_v3_4.ext hk
    replace e23 := e23.q
    replace own_bo := own_bo.ext hk
    replace own_bm := own_bm.ext hk
    replace own_b2_2 := own_b2_2.ext hk
    replace kw := kw.x hk
    clear hR hk hg hP
    refine tail_store (b := b2_2) (o := 0) (v := (.agg #[(.int .i64 (0)), (.slice none 0 0)])) e2 e23 sz27 rfl own_b2_2 (lbr rfl) (all_cons rfl (all_cons rfl all_nil)) (fun W18 hs own_b2_2 => ?_)
    have own_b2_2 : Own W18 b2_2 [(.int .i64 (0)), (.slice none 0 0)] 27 := own_b2_2
    replace own_bo := own_store own_bo hs ne_bo_b2_2
    replace own_bm := ownM_store own_bm hs ne_bm_b2_2
    replace D_cn := sa_store D_cn hs (by simp)
    replace D_ci := sa_store D_ci hs (by simp)
    replace D_v3_4 := sf_store D_v3_4 hs (by simp)
    replace kw := keeps_store kw hs lo_b2_2
    clear hs
    refine tail_nil (hK16 _ _ ?_)
    refine wp_ret ?_
    refine (show bodyPost Try.prog Try.f23 _ .ret _ _ from retC (v := (.agg #[(.int .i64 (0)), (.slice none 0 0)])) rfl zz17 e2 own_b2_2 agg27 sz27 rfl (fun h => by cases h) rfl ⟨_, rfl, kw, ?_⟩)
    have hpa : partA x e = ⟨0, []⟩ := by rw [partA, if_pos (by rw [partE, e3P, h2]; exact hE)]
    refine ⟨?_, by rw [partE, e3P, h2]; exact own_bo, by rw [partM, e3P, h2]; exact own_bm⟩
    rw [hpa]
    exact sf_fr (rdAu_mk (rd_nil _) : Rd W18 (SF w [b2_2, bo, bm]) (Au.d (Au.mk (0) ([]))) _)
   ·
    have hE := bne_eq_false_iff_eq.1 hc
    refine wp_skip (hK13 _ _ ?_)
    refine wp_seq_k fun K19 hK19 => ?_
    refine rg mixed y15 zz15 ?_
    refine .i (sp_move (hbs rfl e4)) ?_
    refine .i (sp_move (hbs rfl e3)) ?_
    refine .i (v := (.agg #[(.int .i64 (if tkB x (failK x.k (failK x.k (tkE x e ⟨#[107, 101, 121, 105, 100, 115]⟩ (textsE 16)) 4) (wrongE [] (if tkB x e ⟨#[107, 101, 121, 105, 100, 115]⟩ (textsE 16) then textsL 16 (getV x ⟨#[107, 101, 121, 105, 100, 115]⟩) else []))) ⟨#[116, 104, 114, 101, 115, 104, 111, 108, 100]⟩ (numE 1 ((if tkB x e ⟨#[107, 101, 121, 105, 100, 115]⟩ (textsE 16) then textsL 16 (getV x ⟨#[107, 101, 121, 105, 100, 115]⟩) else []).length)) then numV 1 ((if tkB x e ⟨#[107, 101, 121, 105, 100, 115]⟩ (textsE 16) then textsL 16 (getV x ⟨#[107, 101, 121, 105, 100, 115]⟩) else []).length) (getV x ⟨#[116, 104, 114, 101, 115, 104, 111, 108, 100]⟩) else 0)), (.slice v3_4a ((if tkB x e ⟨#[107, 101, 121, 105, 100, 115]⟩ (textsE 16) then textsL 16 (getV x ⟨#[107, 101, 121, 105, 100, 115]⟩) else []).length) v3_4c)])) (sp_build (vs := [(0, (.int .i64 (if tkB x (failK x.k (failK x.k (tkE x e ⟨#[107, 101, 121, 105, 100, 115]⟩ (textsE 16)) 4) (wrongE [] (if tkB x e ⟨#[107, 101, 121, 105, 100, 115]⟩ (textsE 16) then textsL 16 (getV x ⟨#[107, 101, 121, 105, 100, 115]⟩) else []))) ⟨#[116, 104, 114, 101, 115, 104, 111, 108, 100]⟩ (numE 1 ((if tkB x e ⟨#[107, 101, 121, 105, 100, 115]⟩ (textsE 16) then textsL 16 (getV x ⟨#[107, 101, 121, 105, 100, 115]⟩) else []).length)) then numV 1 ((if tkB x e ⟨#[107, 101, 121, 105, 100, 115]⟩ (textsE 16) then textsL 16 (getV x ⟨#[107, 101, 121, 105, 100, 115]⟩) else []).length) (getV x ⟨#[116, 104, 114, 101, 115, 104, 111, 108, 100]⟩) else 0))), (1, (.slice v3_4a ((if tkB x e ⟨#[107, 101, 121, 105, 100, 115]⟩ (textsE 16) then textsL 16 (getV x ⟨#[107, 101, 121, 105, 100, 115]⟩) else []).length) v3_4c))]) Try.underlying27 z27 (pl27 Try.underlying27) ⟨rfl, (hlc rfl), rfl, (hlc rfl), trivial⟩ rfl) ?_
    refine .done ⟨by kernel_rfl, fun a20 g W20 y20 zz20 hk hg hV hR hP => ?_⟩
    obtain ⟨e26, -, -, -⟩ := hV
    replace e2 := (hR 2 rfl).trans e2
    replace D_cn := D_cn.ext hk
    replace D_ci := D_ci.ext hk
    replace D_v3_4 := D_v3_4.ext hk
    replace e26 := e26.q
    replace own_bo := own_bo.ext hk
    replace own_bm := own_bm.ext hk
    replace own_b2_2 := own_b2_2.ext hk
    replace kw := kw.x hk
    clear hR hk hg hP
    refine tail_store (b := b2_2) (o := 0) (v := (.agg #[(.int .i64 (if tkB x (failK x.k (failK x.k (tkE x e ⟨#[107, 101, 121, 105, 100, 115]⟩ (textsE 16)) 4) (wrongE [] (if tkB x e ⟨#[107, 101, 121, 105, 100, 115]⟩ (textsE 16) then textsL 16 (getV x ⟨#[107, 101, 121, 105, 100, 115]⟩) else []))) ⟨#[116, 104, 114, 101, 115, 104, 111, 108, 100]⟩ (numE 1 ((if tkB x e ⟨#[107, 101, 121, 105, 100, 115]⟩ (textsE 16) then textsL 16 (getV x ⟨#[107, 101, 121, 105, 100, 115]⟩) else []).length)) then numV 1 ((if tkB x e ⟨#[107, 101, 121, 105, 100, 115]⟩ (textsE 16) then textsL 16 (getV x ⟨#[107, 101, 121, 105, 100, 115]⟩) else []).length) (getV x ⟨#[116, 104, 114, 101, 115, 104, 111, 108, 100]⟩) else 0)), (.slice v3_4a ((if tkB x e ⟨#[107, 101, 121, 105, 100, 115]⟩ (textsE 16) then textsL 16 (getV x ⟨#[107, 101, 121, 105, 100, 115]⟩) else []).length) v3_4c)])) e2 e26 sz27 rfl own_b2_2 (lbr rfl) (all_cons rfl (all_cons rfl all_nil)) (fun W21 hs own_b2_2 => ?_)
    have own_b2_2 : Own W21 b2_2 [(.int .i64 (if tkB x (failK x.k (failK x.k (tkE x e ⟨#[107, 101, 121, 105, 100, 115]⟩ (textsE 16)) 4) (wrongE [] (if tkB x e ⟨#[107, 101, 121, 105, 100, 115]⟩ (textsE 16) then textsL 16 (getV x ⟨#[107, 101, 121, 105, 100, 115]⟩) else []))) ⟨#[116, 104, 114, 101, 115, 104, 111, 108, 100]⟩ (numE 1 ((if tkB x e ⟨#[107, 101, 121, 105, 100, 115]⟩ (textsE 16) then textsL 16 (getV x ⟨#[107, 101, 121, 105, 100, 115]⟩) else []).length)) then numV 1 ((if tkB x e ⟨#[107, 101, 121, 105, 100, 115]⟩ (textsE 16) then textsL 16 (getV x ⟨#[107, 101, 121, 105, 100, 115]⟩) else []).length) (getV x ⟨#[116, 104, 114, 101, 115, 104, 111, 108, 100]⟩) else 0)), (.slice v3_4a ((if tkB x e ⟨#[107, 101, 121, 105, 100, 115]⟩ (textsE 16) then textsL 16 (getV x ⟨#[107, 101, 121, 105, 100, 115]⟩) else []).length) v3_4c)] 27 := own_b2_2
    replace own_bo := own_store own_bo hs ne_bo_b2_2
    replace own_bm := ownM_store own_bm hs ne_bm_b2_2
    replace D_cn := sa_store D_cn hs (by simp)
    replace D_ci := sa_store D_ci hs (by simp)
    replace D_v3_4 := sf_store D_v3_4 hs (by simp)
    replace kw := keeps_store kw hs lo_b2_2
    clear hs
    refine tail_nil (hK19 _ _ ?_)
    refine wp_ret ?_
    refine (show bodyPost Try.prog Try.f23 _ .ret _ _ from retC (v := (.agg #[(.int .i64 (if tkB x (failK x.k (failK x.k (tkE x e ⟨#[107, 101, 121, 105, 100, 115]⟩ (textsE 16)) 4) (wrongE [] (if tkB x e ⟨#[107, 101, 121, 105, 100, 115]⟩ (textsE 16) then textsL 16 (getV x ⟨#[107, 101, 121, 105, 100, 115]⟩) else []))) ⟨#[116, 104, 114, 101, 115, 104, 111, 108, 100]⟩ (numE 1 ((if tkB x e ⟨#[107, 101, 121, 105, 100, 115]⟩ (textsE 16) then textsL 16 (getV x ⟨#[107, 101, 121, 105, 100, 115]⟩) else []).length)) then numV 1 ((if tkB x e ⟨#[107, 101, 121, 105, 100, 115]⟩ (textsE 16) then textsL 16 (getV x ⟨#[107, 101, 121, 105, 100, 115]⟩) else []).length) (getV x ⟨#[116, 104, 114, 101, 115, 104, 111, 108, 100]⟩) else 0)), (.slice v3_4a ((if tkB x e ⟨#[107, 101, 121, 105, 100, 115]⟩ (textsE 16) then textsL 16 (getV x ⟨#[107, 101, 121, 105, 100, 115]⟩) else []).length) v3_4c)])) rfl zz20 e2 own_b2_2 agg27 sz27 rfl (fun h => by cases h) rfl ⟨_, rfl, kw, ?_⟩)
    have hpa : partA x e = ⟨thP x e, idsP x e⟩ := by rw [partA, if_neg (by rw [partE, e3P, h2]; exact fun h => h hE)]
    refine ⟨?_, by rw [partE, e3P, h2]; exact own_bo, by rw [partM, e3P, h2]; exact own_bm⟩
    rw [hpa]
    rw [thP, e3P, h2]
    exact sf_fr (rdAu_mk D_v3_4 : Rd W21 (SF w [b2_2, bo, bm]) (Au.d (Au.mk (if tkB x (failK x.k (failK x.k (tkE x e ⟨#[107, 101, 121, 105, 100, 115]⟩ (textsE 16)) 4) (wrongE [] (if tkB x e ⟨#[107, 101, 121, 105, 100, 115]⟩ (textsE 16) then textsL 16 (getV x ⟨#[107, 101, 121, 105, 100, 115]⟩) else []))) ⟨#[116, 104, 114, 101, 115, 104, 111, 108, 100]⟩ (numE 1 ((if tkB x e ⟨#[107, 101, 121, 105, 100, 115]⟩ (textsE 16) then textsL 16 (getV x ⟨#[107, 101, 121, 105, 100, 115]⟩) else []).length)) then numV 1 ((if tkB x e ⟨#[107, 101, 121, 105, 100, 115]⟩ (textsE 16) then textsL 16 (getV x ⟨#[107, 101, 121, 105, 100, 115]⟩) else []).length) (getV x ⟨#[116, 104, 114, 101, 115, 104, 111, 108, 100]⟩) else 0) (if tkB x e ⟨#[107, 101, 121, 105, 100, 115]⟩ (textsE 16) then textsL 16 (getV x ⟨#[107, 101, 121, 105, 100, 115]⟩) else []))) _)
  ·
   have hl : ¬ (idsP x e).length = 0 := by have h := ne_of_beq_false hc; unfold idsP; omega
   have h2 : e2P x e = e1P x e := by rw [e2P, if_neg hl]
   refine wp_skip (hK5 _ _ ?_)
   refine wp_seq_k fun K22 hK22 => ?_
   refine wp_reg (fun k => k ∉ [bo]) (Ψ := fun W => Own W bo [(.int .u8 (x.k)), (.int .i64 (x.n)), (.string (x.t)), (.slice cna (x.ns.length) cnc), (.slice cia (x.xs.length) cic), (.map (some bm)), (.int .i64 (tkE x e ⟨#[107, 101, 121, 105, 100, 115]⟩ (textsE 16)))] 74) mixed y7 zz7 stE_own own_bo ?_
   refine .i (sp_move (hbs rfl e0)) ?_
   refine .i (sp_move (hbs rfl e3)) ?_
   refine .i (v := (.int .i64 (wrongE [] (if tkB x e ⟨#[107, 101, 121, 105, 100, 115]⟩ (textsE 16) then textsL 16 (getV x ⟨#[107, 101, 121, 105, 100, 115]⟩) else [])))) (sp_call1 (φ1 := IsD (SF w [b2_2, bo, bm]) (strsD (if tkB x e ⟨#[107, 101, 121, 105, 100, 115]⟩ (textsE 16) then textsL 16 (getV x ⟨#[107, 101, 121, 105, 100, 115]⟩) else []))) ent77 ((hlc rfl).dat D_v3_4 (sub_nlF (by simp))) (fun g u1 W hk hgk h1 => wrong_ok (if tkB x e ⟨#[107, 101, 121, 105, 100, 115]⟩ (textsE 16) then textsL 16 (getV x ⟨#[107, 101, 121, 105, 100, 115]⟩) else []) W _ _ h1)) ?_
   refine .callL2 (φ1 := Is (.pointer (some ⟨bo, 0, none⟩))) (φ2 := Is (.int .i64 (wrongE [] (if tkB x e ⟨#[107, 101, 121, 105, 100, 115]⟩ (textsE 16) then textsL 16 (getV x ⟨#[107, 101, 121, 105, 100, 115]⟩) else [])))) (φ := Is (.tuple #[])) (Ψ' := fun W => Own W bo [(.int .u8 (x.k)), (.int .i64 (x.n)), (.string (x.t)), (.slice cna (x.ns.length) cnc), (.slice cia (x.xs.length) cic), (.map (some bm)), (.int .i64 (failK x.k (tkE x e ⟨#[107, 101, 121, 105, 100, 115]⟩ (textsE 16)) (wrongE [] (if tkB x e ⟨#[107, 101, 121, 105, 100, 115]⟩ (textsE 16) then textsL 16 (getV x ⟨#[107, 101, 121, 105, 100, 115]⟩) else []))))] 74) ent22 (hlc rfl) (hlc rfl) (st_is _) stE_own (fun g u1 u2 W hk hg h1 h2 hP => by have h1 : u1 = _ := h1; subst u1; have h2 : u2 = _ := h2; subst u2; exact (Fail_ok _ _ _ _ _ _ _ (wrongE [] (if tkB x e ⟨#[107, 101, 121, 105, 100, 115]⟩ (textsE 16) then textsL 16 (getV x ⟨#[107, 101, 121, 105, 100, 115]⟩) else [])) W _ hP)) ?_
   refine .done ⟨by kernel_rfl, fun a23 g W23 y23 zz23 hk hg hV hR hP => ?_⟩
   obtain ⟨-, -, -, -, -⟩ := hV
   replace e0 := (hR 0 rfl).trans e0
   replace e2 := (hR 2 rfl).trans e2
   replace e3 := (hR 3 rfl).trans e3
   replace D_cn := sa_keepL D_cn hk (by simp)
   replace D_ci := sa_keepL D_ci hk (by simp)
   replace D_v3_4 := sf_keepL D_v3_4 hk (by simp)
   replace own_bm := ownM_keepL own_bm hk (by simp [hne.symm])
   replace own_b2_2 := own_keepL own_b2_2 hk (by simp [ne_bo_b2_2.symm])
   have own_bo := hP
   replace own_bo : Own W23 bo [(.int .u8 (x.k)), (.int .i64 (x.n)), (.string (x.t)), (.slice cna (x.ns.length) cnc), (.slice cia (x.xs.length) cic), (.map (some bm)), (.int .i64 (failK x.k (tkE x e ⟨#[107, 101, 121, 105, 100, 115]⟩ (textsE 16)) (wrongE [] (if tkB x e ⟨#[107, 101, 121, 105, 100, 115]⟩ (textsE 16) then textsL 16 (getV x ⟨#[107, 101, 121, 105, 100, 115]⟩) else []))))] 74 := own_bo
   replace kw := keeps_L kw hk (in_cons (.inr (by simp)) in_nil)
   clear hR hk hg hP
   refine tail_nil (hK22 _ _ ?_)
   refine wp_seq_k fun K24 hK24 => ?_
   refine wp_reg (fun k => k ∉ [bo, bm]) (Ψ := fun W => Own W bo [(.int .u8 (x.k)), (.int .i64 (x.n)), (.string (x.t)), (.slice cna (x.ns.length) cnc), (.slice cia (x.xs.length) cic), (.map (some bm)), (.int .i64 (failK x.k (tkE x e ⟨#[107, 101, 121, 105, 100, 115]⟩ (textsE 16)) (wrongE [] (if tkB x e ⟨#[107, 101, 121, 105, 100, 115]⟩ (textsE 16) then textsL 16 (getV x ⟨#[107, 101, 121, 105, 100, 115]⟩) else []))))] 74 ∧ OwnM W bm (tkA x A e ⟨#[107, 101, 121, 105, 100, 115]⟩ (textsE 16))) mixed y23 zz23 (stE_and stE_own stE_ownM) ⟨own_bo, own_bm⟩ ?_
   refine .i (sp_move (hbs rfl e0)) ?_
   refine .i (sp_move (hbs rfl e3)) ?_
   refine .i (sp_lenSs Try.underlying23 ((hlc rfl).dat D_v3_4 (sub_nlF (by simp)))) ?_
   refine .callL4 (φ1 := Is (.pointer (some ⟨bo, 0, none⟩))) (φ2 := Is (.string (⟨#[116, 104, 114, 101, 115, 104, 111, 108, 100]⟩))) (φ3 := Is (.int .i64 (1))) (φ4 := Is (.int .i64 ((if tkB x e ⟨#[107, 101, 121, 105, 100, 115]⟩ (textsE 16) then textsL 16 (getV x ⟨#[107, 101, 121, 105, 100, 115]⟩) else []).length))) (φ := Is (.int .i64 (if tkB x (failK x.k (tkE x e ⟨#[107, 101, 121, 105, 100, 115]⟩ (textsE 16)) (wrongE [] (if tkB x e ⟨#[107, 101, 121, 105, 100, 115]⟩ (textsE 16) then textsL 16 (getV x ⟨#[107, 101, 121, 105, 100, 115]⟩) else []))) ⟨#[116, 104, 114, 101, 115, 104, 111, 108, 100]⟩ (numE 1 ((if tkB x e ⟨#[107, 101, 121, 105, 100, 115]⟩ (textsE 16) then textsL 16 (getV x ⟨#[107, 101, 121, 105, 100, 115]⟩) else []).length)) then numV 1 ((if tkB x e ⟨#[107, 101, 121, 105, 100, 115]⟩ (textsE 16) then textsL 16 (getV x ⟨#[107, 101, 121, 105, 100, 115]⟩) else []).length) (getV x ⟨#[116, 104, 114, 101, 115, 104, 111, 108, 100]⟩) else 0))) (Ψ' := fun W => Own W bo [(.int .u8 (x.k)), (.int .i64 (x.n)), (.string (x.t)), (.slice cna (x.ns.length) cnc), (.slice cia (x.xs.length) cic), (.map (some bm)), (.int .i64 (tkE x (failK x.k (tkE x e ⟨#[107, 101, 121, 105, 100, 115]⟩ (textsE 16)) (wrongE [] (if tkB x e ⟨#[107, 101, 121, 105, 100, 115]⟩ (textsE 16) then textsL 16 (getV x ⟨#[107, 101, 121, 105, 100, 115]⟩) else []))) ⟨#[116, 104, 114, 101, 115, 104, 111, 108, 100]⟩ (numE 1 ((if tkB x e ⟨#[107, 101, 121, 105, 100, 115]⟩ (textsE 16) then textsL 16 (getV x ⟨#[107, 101, 121, 105, 100, 115]⟩) else []).length))))] 74 ∧ OwnM W bm (tkA x (tkA x A e ⟨#[107, 101, 121, 105, 100, 115]⟩ (textsE 16)) (failK x.k (tkE x e ⟨#[107, 101, 121, 105, 100, 115]⟩ (textsE 16)) (wrongE [] (if tkB x e ⟨#[107, 101, 121, 105, 100, 115]⟩ (textsE 16) then textsL 16 (getV x ⟨#[107, 101, 121, 105, 100, 115]⟩) else []))) ⟨#[116, 104, 114, 101, 115, 104, 111, 108, 100]⟩ (numE 1 ((if tkB x e ⟨#[107, 101, 121, 105, 100, 115]⟩ (textsE 16) then textsL 16 (getV x ⟨#[107, 101, 121, 105, 100, 115]⟩) else []).length)))) ent44 (hlc rfl) Has.cst Has.cst (hlc rfl) (st_is _) (stE_and stE_own stE_ownM) (fun g u1 u2 u3 u4 W hk hg h1 h2 h3 h4 hP => by have h1 : u1 = _ := h1; subst u1; have h2 : u2 = _ := h2; subst u2; have h3 : u3 = _ := h3; subst u3; have h4 : u4 = _ := h4; subst u4; exact (Num_ok (x) (tkA x A e ⟨#[107, 101, 121, 105, 100, 115]⟩ (textsE 16)) (failK x.k (tkE x e ⟨#[107, 101, 121, 105, 100, 115]⟩ (textsE 16)) (wrongE [] (if tkB x e ⟨#[107, 101, 121, 105, 100, 115]⟩ (textsE 16) then textsL 16 (getV x ⟨#[107, 101, 121, 105, 100, 115]⟩) else []))) (hA.tk.mono (by omega)) hx hxt ⟨#[116, 104, 114, 101, 115, 104, 111, 108, 100]⟩ 1 ((if tkB x e ⟨#[107, 101, 121, 105, 100, 115]⟩ (textsE 16) then textsL 16 (getV x ⟨#[107, 101, 121, 105, 100, 115]⟩) else []).length) W _ _ _ _ _ (sa_cln hS) (sa_notin (by simp)) hne (sa_keepL D_cn hk (by simp)) (sa_keepL D_ci hk (by simp)) hP.1 hP.2)) ?_
   refine .i (sp_assign (hlc rfl)) ?_
   refine .done ⟨by kernel_rfl, fun a25 g W25 y25 zz25 hk hg hV hR hP => ?_⟩
   obtain ⟨e4, -, -, -, -, -⟩ := hV
   replace e0 := (hR 0 rfl).trans e0
   replace e2 := (hR 2 rfl).trans e2
   replace e3 := (hR 3 rfl).trans e3
   replace e4 := e4.q
   replace D_cn := sa_keepL D_cn hk (by simp)
   replace D_ci := sa_keepL D_ci hk (by simp)
   replace D_v3_4 := sf_keepL D_v3_4 hk (by simp)
   replace own_b2_2 := own_keepL own_b2_2 hk (by simp [ne_bo_b2_2.symm, ne_bm_b2_2.symm])
   obtain ⟨own_bo, own_bm⟩ := hP
   replace own_bo : Own W25 bo [(.int .u8 (x.k)), (.int .i64 (x.n)), (.string (x.t)), (.slice cna (x.ns.length) cnc), (.slice cia (x.xs.length) cic), (.map (some bm)), (.int .i64 (tkE x (failK x.k (tkE x e ⟨#[107, 101, 121, 105, 100, 115]⟩ (textsE 16)) (wrongE [] (if tkB x e ⟨#[107, 101, 121, 105, 100, 115]⟩ (textsE 16) then textsL 16 (getV x ⟨#[107, 101, 121, 105, 100, 115]⟩) else []))) ⟨#[116, 104, 114, 101, 115, 104, 111, 108, 100]⟩ (numE 1 ((if tkB x e ⟨#[107, 101, 121, 105, 100, 115]⟩ (textsE 16) then textsL 16 (getV x ⟨#[107, 101, 121, 105, 100, 115]⟩) else []).length))))] 74 := own_bo
   replace own_bm : OwnM W25 bm (tkA x (tkA x A e ⟨#[107, 101, 121, 105, 100, 115]⟩ (textsE 16)) (failK x.k (tkE x e ⟨#[107, 101, 121, 105, 100, 115]⟩ (textsE 16)) (wrongE [] (if tkB x e ⟨#[107, 101, 121, 105, 100, 115]⟩ (textsE 16) then textsL 16 (getV x ⟨#[107, 101, 121, 105, 100, 115]⟩) else []))) ⟨#[116, 104, 114, 101, 115, 104, 111, 108, 100]⟩ (numE 1 ((if tkB x e ⟨#[107, 101, 121, 105, 100, 115]⟩ (textsE 16) then textsL 16 (getV x ⟨#[107, 101, 121, 105, 100, 115]⟩) else []).length))) := own_bm
   replace kw := keeps_L kw hk (in_cons (.inr (by simp)) (in_cons (.inr (by simp)) in_nil))
   clear hR hk hg
   refine tail_nil (hK24 _ _ ?_)
   refine wp_seq_k fun K26 hK26 => ?_
   refine wp_seq_k fun K27 hK27 => ?_
   refine rg mixed y25 zz25 ?_
   refine .i (sp_move (hbs rfl e0)) ?_
   refine .i (v := (.int .i64 (errK x.k (tkE x (failK x.k (tkE x e ⟨#[107, 101, 121, 105, 100, 115]⟩ (textsE 16)) (wrongE [] (if tkB x e ⟨#[107, 101, 121, 105, 100, 115]⟩ (textsE 16) then textsL 16 (getV x ⟨#[107, 101, 121, 105, 100, 115]⟩) else []))) ⟨#[116, 104, 114, 101, 115, 104, 111, 108, 100]⟩ (numE 1 ((if tkB x e ⟨#[107, 101, 121, 105, 100, 115]⟩ (textsE 16) then textsL 16 (getV x ⟨#[107, 101, 121, 105, 100, 115]⟩) else []).length)))))) (sp_call1 (φ1 := Is (.pointer (some ⟨bo, 0, none⟩))) ent24 (hlc rfl) (fun g u1 W hk hgk h1 => by have h1 : u1 = _ := h1; subst u1; exact Err_ok _ _ _ _ _ _ _ W _ (own_bo.ext hk))) ?_
   refine .i (sp_neq (hlc rfl) Has.cst) ?_
   refine .done ⟨by kernel_rfl, fun a28 g W28 y28 zz28 hk hg hV hR hP => ?_⟩
   obtain ⟨e22, -, -, -⟩ := hV
   replace e2 := (hR 2 rfl).trans e2
   replace e3 := (hR 3 rfl).trans e3
   replace e4 := (hR 4 rfl).trans e4
   replace D_cn := D_cn.ext hk
   replace D_ci := D_ci.ext hk
   replace D_v3_4 := D_v3_4.ext hk
   replace e22 := e22.q
   replace own_bo := own_bo.ext hk
   replace own_bm := own_bm.ext hk
   replace own_b2_2 := own_b2_2.ext hk
   replace kw := kw.x hk
   clear hR hk hg hP
   refine tail_nil (hK27 _ _ ?_)
   refine wp_cond_split e22 (fun hc => ?_) (fun hc => ?_)
   ·
    have hE := bne_iff_ne.1 hc
    refine wp_seq_k fun K29 hK29 => ?_
    refine rg mixed y28 zz28 ?_
    refine .i (v := (.agg #[(.int .i64 (0)), (.slice none 0 0)])) (sp_build (vs := []) Try.underlying27 z27 (pl27 Try.underlying27) trivial rfl) ?_
    refine .done ⟨by kernel_rfl, fun a30 g W30 y30 zz30 hk hg hV hR hP => ?_⟩
    obtain ⟨e23, -⟩ := hV
    replace e2 := (hR 2 rfl).trans e2
    replace D_cn := D_cn.ext hk
    replace D_ci := D_ci.ext hk
    replace D_v3_4 := D_v3_4.ext hk
    replace e23 := e23.q
    replace own_bo := own_bo.ext hk
    replace own_bm := own_bm.ext hk
    replace own_b2_2 := own_b2_2.ext hk
    replace kw := kw.x hk
    clear hR hk hg hP
    refine tail_store (b := b2_2) (o := 0) (v := (.agg #[(.int .i64 (0)), (.slice none 0 0)])) e2 e23 sz27 rfl own_b2_2 (lbr rfl) (all_cons rfl (all_cons rfl all_nil)) (fun W31 hs own_b2_2 => ?_)
    have own_b2_2 : Own W31 b2_2 [(.int .i64 (0)), (.slice none 0 0)] 27 := own_b2_2
    replace own_bo := own_store own_bo hs ne_bo_b2_2
    replace own_bm := ownM_store own_bm hs ne_bm_b2_2
    replace D_cn := sa_store D_cn hs (by simp)
    replace D_ci := sa_store D_ci hs (by simp)
    replace D_v3_4 := sf_store D_v3_4 hs (by simp)
    replace kw := keeps_store kw hs lo_b2_2
    clear hs
    refine tail_nil (hK29 _ _ ?_)
    refine wp_ret ?_
    refine (show bodyPost Try.prog Try.f23 _ .ret _ _ from retC (v := (.agg #[(.int .i64 (0)), (.slice none 0 0)])) rfl zz30 e2 own_b2_2 agg27 sz27 rfl (fun h => by cases h) rfl ⟨_, rfl, kw, ?_⟩)
    have hpa : partA x e = ⟨0, []⟩ := by rw [partA, if_pos (by rw [partE, e3P, h2]; exact hE)]
    refine ⟨?_, by rw [partE, e3P, h2]; exact own_bo, by rw [partM, e3P, h2]; exact own_bm⟩
    rw [hpa]
    exact sf_fr (rdAu_mk (rd_nil _) : Rd W31 (SF w [b2_2, bo, bm]) (Au.d (Au.mk (0) ([]))) _)
   ·
    have hE := bne_eq_false_iff_eq.1 hc
    refine wp_skip (hK26 _ _ ?_)
    refine wp_seq_k fun K32 hK32 => ?_
    refine rg mixed y28 zz28 ?_
    refine .i (sp_move (hbs rfl e4)) ?_
    refine .i (sp_move (hbs rfl e3)) ?_
    refine .i (v := (.agg #[(.int .i64 (if tkB x (failK x.k (tkE x e ⟨#[107, 101, 121, 105, 100, 115]⟩ (textsE 16)) (wrongE [] (if tkB x e ⟨#[107, 101, 121, 105, 100, 115]⟩ (textsE 16) then textsL 16 (getV x ⟨#[107, 101, 121, 105, 100, 115]⟩) else []))) ⟨#[116, 104, 114, 101, 115, 104, 111, 108, 100]⟩ (numE 1 ((if tkB x e ⟨#[107, 101, 121, 105, 100, 115]⟩ (textsE 16) then textsL 16 (getV x ⟨#[107, 101, 121, 105, 100, 115]⟩) else []).length)) then numV 1 ((if tkB x e ⟨#[107, 101, 121, 105, 100, 115]⟩ (textsE 16) then textsL 16 (getV x ⟨#[107, 101, 121, 105, 100, 115]⟩) else []).length) (getV x ⟨#[116, 104, 114, 101, 115, 104, 111, 108, 100]⟩) else 0)), (.slice v3_4a ((if tkB x e ⟨#[107, 101, 121, 105, 100, 115]⟩ (textsE 16) then textsL 16 (getV x ⟨#[107, 101, 121, 105, 100, 115]⟩) else []).length) v3_4c)])) (sp_build (vs := [(0, (.int .i64 (if tkB x (failK x.k (tkE x e ⟨#[107, 101, 121, 105, 100, 115]⟩ (textsE 16)) (wrongE [] (if tkB x e ⟨#[107, 101, 121, 105, 100, 115]⟩ (textsE 16) then textsL 16 (getV x ⟨#[107, 101, 121, 105, 100, 115]⟩) else []))) ⟨#[116, 104, 114, 101, 115, 104, 111, 108, 100]⟩ (numE 1 ((if tkB x e ⟨#[107, 101, 121, 105, 100, 115]⟩ (textsE 16) then textsL 16 (getV x ⟨#[107, 101, 121, 105, 100, 115]⟩) else []).length)) then numV 1 ((if tkB x e ⟨#[107, 101, 121, 105, 100, 115]⟩ (textsE 16) then textsL 16 (getV x ⟨#[107, 101, 121, 105, 100, 115]⟩) else []).length) (getV x ⟨#[116, 104, 114, 101, 115, 104, 111, 108, 100]⟩) else 0))), (1, (.slice v3_4a ((if tkB x e ⟨#[107, 101, 121, 105, 100, 115]⟩ (textsE 16) then textsL 16 (getV x ⟨#[107, 101, 121, 105, 100, 115]⟩) else []).length) v3_4c))]) Try.underlying27 z27 (pl27 Try.underlying27) ⟨rfl, (hlc rfl), rfl, (hlc rfl), trivial⟩ rfl) ?_
    refine .done ⟨by kernel_rfl, fun a33 g W33 y33 zz33 hk hg hV hR hP => ?_⟩
    obtain ⟨e26, -, -, -⟩ := hV
    replace e2 := (hR 2 rfl).trans e2
    replace D_cn := D_cn.ext hk
    replace D_ci := D_ci.ext hk
    replace D_v3_4 := D_v3_4.ext hk
    replace e26 := e26.q
    replace own_bo := own_bo.ext hk
    replace own_bm := own_bm.ext hk
    replace own_b2_2 := own_b2_2.ext hk
    replace kw := kw.x hk
    clear hR hk hg hP
    refine tail_store (b := b2_2) (o := 0) (v := (.agg #[(.int .i64 (if tkB x (failK x.k (tkE x e ⟨#[107, 101, 121, 105, 100, 115]⟩ (textsE 16)) (wrongE [] (if tkB x e ⟨#[107, 101, 121, 105, 100, 115]⟩ (textsE 16) then textsL 16 (getV x ⟨#[107, 101, 121, 105, 100, 115]⟩) else []))) ⟨#[116, 104, 114, 101, 115, 104, 111, 108, 100]⟩ (numE 1 ((if tkB x e ⟨#[107, 101, 121, 105, 100, 115]⟩ (textsE 16) then textsL 16 (getV x ⟨#[107, 101, 121, 105, 100, 115]⟩) else []).length)) then numV 1 ((if tkB x e ⟨#[107, 101, 121, 105, 100, 115]⟩ (textsE 16) then textsL 16 (getV x ⟨#[107, 101, 121, 105, 100, 115]⟩) else []).length) (getV x ⟨#[116, 104, 114, 101, 115, 104, 111, 108, 100]⟩) else 0)), (.slice v3_4a ((if tkB x e ⟨#[107, 101, 121, 105, 100, 115]⟩ (textsE 16) then textsL 16 (getV x ⟨#[107, 101, 121, 105, 100, 115]⟩) else []).length) v3_4c)])) e2 e26 sz27 rfl own_b2_2 (lbr rfl) (all_cons rfl (all_cons rfl all_nil)) (fun W34 hs own_b2_2 => ?_)
    have own_b2_2 : Own W34 b2_2 [(.int .i64 (if tkB x (failK x.k (tkE x e ⟨#[107, 101, 121, 105, 100, 115]⟩ (textsE 16)) (wrongE [] (if tkB x e ⟨#[107, 101, 121, 105, 100, 115]⟩ (textsE 16) then textsL 16 (getV x ⟨#[107, 101, 121, 105, 100, 115]⟩) else []))) ⟨#[116, 104, 114, 101, 115, 104, 111, 108, 100]⟩ (numE 1 ((if tkB x e ⟨#[107, 101, 121, 105, 100, 115]⟩ (textsE 16) then textsL 16 (getV x ⟨#[107, 101, 121, 105, 100, 115]⟩) else []).length)) then numV 1 ((if tkB x e ⟨#[107, 101, 121, 105, 100, 115]⟩ (textsE 16) then textsL 16 (getV x ⟨#[107, 101, 121, 105, 100, 115]⟩) else []).length) (getV x ⟨#[116, 104, 114, 101, 115, 104, 111, 108, 100]⟩) else 0)), (.slice v3_4a ((if tkB x e ⟨#[107, 101, 121, 105, 100, 115]⟩ (textsE 16) then textsL 16 (getV x ⟨#[107, 101, 121, 105, 100, 115]⟩) else []).length) v3_4c)] 27 := own_b2_2
    replace own_bo := own_store own_bo hs ne_bo_b2_2
    replace own_bm := ownM_store own_bm hs ne_bm_b2_2
    replace D_cn := sa_store D_cn hs (by simp)
    replace D_ci := sa_store D_ci hs (by simp)
    replace D_v3_4 := sf_store D_v3_4 hs (by simp)
    replace kw := keeps_store kw hs lo_b2_2
    clear hs
    refine tail_nil (hK32 _ _ ?_)
    refine wp_ret ?_
    refine (show bodyPost Try.prog Try.f23 _ .ret _ _ from retC (v := (.agg #[(.int .i64 (if tkB x (failK x.k (tkE x e ⟨#[107, 101, 121, 105, 100, 115]⟩ (textsE 16)) (wrongE [] (if tkB x e ⟨#[107, 101, 121, 105, 100, 115]⟩ (textsE 16) then textsL 16 (getV x ⟨#[107, 101, 121, 105, 100, 115]⟩) else []))) ⟨#[116, 104, 114, 101, 115, 104, 111, 108, 100]⟩ (numE 1 ((if tkB x e ⟨#[107, 101, 121, 105, 100, 115]⟩ (textsE 16) then textsL 16 (getV x ⟨#[107, 101, 121, 105, 100, 115]⟩) else []).length)) then numV 1 ((if tkB x e ⟨#[107, 101, 121, 105, 100, 115]⟩ (textsE 16) then textsL 16 (getV x ⟨#[107, 101, 121, 105, 100, 115]⟩) else []).length) (getV x ⟨#[116, 104, 114, 101, 115, 104, 111, 108, 100]⟩) else 0)), (.slice v3_4a ((if tkB x e ⟨#[107, 101, 121, 105, 100, 115]⟩ (textsE 16) then textsL 16 (getV x ⟨#[107, 101, 121, 105, 100, 115]⟩) else []).length) v3_4c)])) rfl zz33 e2 own_b2_2 agg27 sz27 rfl (fun h => by cases h) rfl ⟨_, rfl, kw, ?_⟩)
    have hpa : partA x e = ⟨thP x e, idsP x e⟩ := by rw [partA, if_neg (by rw [partE, e3P, h2]; exact fun h => h hE)]
    refine ⟨?_, by rw [partE, e3P, h2]; exact own_bo, by rw [partM, e3P, h2]; exact own_bm⟩
    rw [hpa]
    rw [thP, e3P, h2]
    exact sf_fr (rdAu_mk D_v3_4 : Rd W34 (SF w [b2_2, bo, bm]) (Au.d (Au.mk (if tkB x (failK x.k (tkE x e ⟨#[107, 101, 121, 105, 100, 115]⟩ (textsE 16)) (wrongE [] (if tkB x e ⟨#[107, 101, 121, 105, 100, 115]⟩ (textsE 16) then textsL 16 (getV x ⟨#[107, 101, 121, 105, 100, 115]⟩) else []))) ⟨#[116, 104, 114, 101, 115, 104, 111, 108, 100]⟩ (numE 1 ((if tkB x e ⟨#[107, 101, 121, 105, 100, 115]⟩ (textsE 16) then textsL 16 (getV x ⟨#[107, 101, 121, 105, 100, 115]⟩) else []).length)) then numV 1 ((if tkB x e ⟨#[107, 101, 121, 105, 100, 115]⟩ (textsE 16) then textsL 16 (getV x ⟨#[107, 101, 121, 105, 100, 115]⟩) else []).length) (getV x ⟨#[116, 104, 114, 101, 115, 104, 111, 108, 100]⟩) else 0) (if tkB x e ⟨#[107, 101, 121, 105, 100, 115]⟩ (textsE 16) then textsL 16 (getV x ⟨#[107, 101, 121, 105, 100, 115]⟩) else []))) _)

end Go.Proofs.Ytnobijngkpflcaa
