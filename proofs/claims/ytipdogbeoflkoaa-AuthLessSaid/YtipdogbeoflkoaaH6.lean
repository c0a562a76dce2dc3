import Derived.Test.YtipdogbeoflkoaaH5
import Derived.Test.YtipdogbeoflkoaaEngO
namespace Go.Proofs.Ytipdogbeoflkoaa
open Go.Eng
set_option maxRecDepth 100000 in
theorem Of_ok (x : V) (hx : x.wt ≤ 1073741824) (hof : ofE x = 0) (w : World) (S : BSet) (v : Value) (hS : ∀ b o, S b o → Cln o) (hv : Rd w S x.d v) : Calls Try.prog 16 #[v] w (Ret w fun u W => PkAt w W 69 x [] 0 u) := by
  have hwx := wt_eq x
  have hwl := wts_len x.xs
  have hwn := wtN_len x.ns
  have hk5 : x.k = 5 ∧ x.ns.length = x.xs.length ∧ asc x.ns = true := by
    unfold ofE at hof
    split at hof
    · cases hof
    · split at hof
      · cases hof
      · rename_i h1 h2
        have h3 : asc x.ns = true := by cases hq : asc x.ns with | true => rfl | false => exact absurd (.inr hq) h2
        exact ⟨by omega, by omega, h3⟩
  obtain ⟨cn0a, cn0c, ci0a, ci0c, ev, ht0, D_cn0, D_ci0⟩ := rdV_out (rd_arg hv)
  subst ev
  refine enter Try.func16 rfl Try.ntmps16 (Nat.le_of_ble_eq_true rfl) fun a0 hsz0 hdf0 harg => ?_
  have e0 : sl a0 0 = (.agg #[(.int .u8 (x.k)), (.int .i64 (x.n)), (.string (x.t)), (.slice cn0a (x.ns.length) cn0c), (.slice ci0a (x.xs.length) ci0c)]) := harg 0 (Nat.le_of_ble_eq_true rfl)
  have kw := Keeps.refl All w
  clear harg
  refine wp_seq_k fun K1 hK1 => ?_
  refine wp_reg All mixed hsz0 hdf0 st_tr trivial ?_
  refine Chain.boxOp (v := (.agg #[(.int .u8 (x.k)), (.int .i64 (x.n)), (.string (x.t)), (.slice cn0a (x.ns.length) cn0c), (.slice ci0a (x.xs.length) ci0c)])) (Has.base rfl e0) ?_
  refine Chain.op (φ := Is (.pointer none)) (st_is _) (sp_assign Has.cst) ?_
  refine Chain.done ⟨by kernel_rfl, fun a2 g W2 hsz2 hdf2 hk hg henv hrest hpsi => ?_⟩
  obtain ⟨-, ⟨b1_2, e1, hb1, own_b1_2⟩, -⟩ := henv
  have lo_b1_2 : w.heap.size ≤ b1_2 := Nat.le_trans kw.size (hg.lo _ _ hb1)
  have own_b1_2 : Own W2 b1_2 [(.int .u8 (x.k)), (.int .i64 (x.n)), (.string (x.t)), (.slice cn0a (x.ns.length) cn0c), (.slice ci0a (x.xs.length) ci0c)] 33 := own_b1_2
  replace D_cn0 := sa_more D_cn0 hk [b1_2] (in_cons (hg.lo _ _ hb1) in_nil)
  replace D_ci0 := sa_more D_ci0 hk [b1_2] (in_cons (hg.lo _ _ hb1) in_nil)
  replace kw := kw.trans (.of_ext hk)
  clear hrest hk hg hpsi hb1
  refine tail_nil (hK1 _ _ ?_)
  refine wp_seq_k fun K3 hK3 => ?_
  refine wp_seq_k fun K4 hK4 => ?_
  refine wp_reg All mixed hsz2 hdf2 st_tr trivial ?_
  refine Chain.op (φ := Is (.pointer (some ⟨b1_2, 0, none⟩))) (st_is _) (sp_fieldO (Has.base rfl e1) Try.underlying33 rfl sz5 rfl) ?_
  refine Chain.op (φ := Is (.int .u8 (x.k))) (st_is _) (sp_loadO (v := (.int .u8 (x.k))) (Has.loc rfl) own_b1_2 trivial agg5 sz5 (Nat.le_of_ble_eq_true rfl) (fun h => by first | rfl | cases h) rfl) ?_
  refine Chain.op (φ := Is (.bool ((x.k : Int) != (5 : Int)))) (st_is _) (sp_neq (Has.loc rfl) Has.cst) ?_
  refine Chain.done ⟨by kernel_rfl, fun a5 g W5 hsz5 hdf5 hk hg henv hrest hpsi => ?_⟩
  obtain ⟨e6, -, -, -⟩ := henv
  replace e1 := (hrest 1 rfl).trans e1
  replace D_cn0 := D_cn0.ext hk
  replace D_ci0 := D_ci0.ext hk
  have e6 : sl a5 6 = (.bool ((x.k : Int) != (5 : Int))) := e6
  replace own_b1_2 := own_b1_2.ext hk
  replace kw := kw.trans (.of_ext hk)
  clear hrest hk hg hpsi
  refine tail_nil (hK4 _ _ ?_)
  refine wp_cond_split e6 (fun hc => ?_) (fun hc => ?_)
  · -- T: (x.k : Int) != (5 : Int)
    exfalso
    simp [hk5.1] at hc
  · -- E: (x.k : Int) != (5 : Int)
    refine wp_skip (hK3 _ _ ?_)
    refine wp_seq_k fun K6 hK6 => ?_
    refine wp_seq_k fun K7 hK7 => ?_
    refine wp_reg All mixed hsz5 hdf5 st_tr trivial ?_
    refine Chain.op (φ := Is (.pointer (some ⟨b1_2, 3, none⟩))) (st_is _) (sp_fieldO (Has.base rfl e1) Try.underlying33 rfl sz23 rfl) ?_
    refine Chain.op (φ := Is (.slice cn0a (x.ns.length) cn0c)) (st_is _) (sp_loadO (v := (.slice cn0a (x.ns.length) cn0c)) (Has.loc rfl) own_b1_2 trivial agg23 sz23 (Nat.le_of_ble_eq_true rfl) (fun h => by first | rfl | cases h) rfl) ?_
    refine Chain.op (φ := Is (.int .i64 (x.ns.length))) (st_is _) (sp_lenSs Try.underlying23 ((Has.loc rfl).dat D_cn0 sub_all)) ?_
    refine Chain.op (φ := Is (.pointer (some ⟨b1_2, 4, none⟩))) (st_is _) (sp_fieldO (Has.base rfl e1) Try.underlying33 rfl sz31 rfl) ?_
    refine Chain.op (φ := Is (.slice ci0a (x.xs.length) ci0c)) (st_is _) (sp_loadO (v := (.slice ci0a (x.xs.length) ci0c)) (Has.loc rfl) own_b1_2 trivial agg31 sz31 (Nat.le_of_ble_eq_true rfl) (fun h => by first | rfl | cases h) rfl) ?_
    refine Chain.op (φ := Is (.int .i64 (x.xs.length))) (st_is _) (sp_lenVs Try.underlying31 ((Has.loc rfl).dat D_ci0 sub_all)) ?_
    refine Chain.op (φ := Is (.bool ((x.ns.length : Int) != (x.xs.length : Int)))) (st_is _) (sp_neq (Has.loc rfl) (Has.loc rfl)) ?_
    refine Chain.done ⟨by kernel_rfl, fun a8 g W8 hsz8 hdf8 hk hg henv hrest hpsi => ?_⟩
    obtain ⟨e15, -, -, -, -, -, -, -⟩ := henv
    replace e1 := (hrest 1 rfl).trans e1
    replace D_cn0 := D_cn0.ext hk
    replace D_ci0 := D_ci0.ext hk
    have e15 : sl a8 15 = (.bool ((x.ns.length : Int) != (x.xs.length : Int))) := e15
    replace own_b1_2 := own_b1_2.ext hk
    replace kw := kw.trans (.of_ext hk)
    clear hrest hk hg hpsi
    refine tail_nil (hK7 _ _ ?_)
    refine wp_cond_split e15 (fun hc => ?_) (fun hc => ?_)
    · -- T: (x.ns.length : Int) != (x.xs.length : Int)
      exfalso
      simp [hk5.2.1] at hc
    · -- E: (x.ns.length : Int) != (x.xs.length : Int)
      refine wp_skip (hK6 _ _ ?_)
      refine wp_seq_k fun K9 hK9 => ?_
      refine wp_seq_k fun K10 hK10 => ?_
      refine wp_reg All mixed hsz8 hdf8 st_tr trivial ?_
      refine Chain.op (φ := Is (.int .i64 (1))) (st_is _) (sp_assign Has.cst) ?_
      refine Chain.done ⟨by kernel_rfl, fun a11 g W11 hsz11 hdf11 hk hg henv hrest hpsi => ?_⟩
      obtain ⟨e3, -⟩ := henv
      replace e1 := (hrest 1 rfl).trans e1
      replace D_cn0 := D_cn0.ext hk
      replace D_ci0 := D_ci0.ext hk
      have e3 : sl a11 3 = (.int .i64 (1)) := e3
      replace own_b1_2 := own_b1_2.ext hk
      replace kw := kw.trans (.of_ext hk)
      clear hrest hk hg hpsi
      refine tail_nil (hK10 _ _ ?_)
      refine wp_block ?_
      refine wp_for (x.ns.length) (fun k a W => a.tmps.size = 44 ∧ a.defers = [] ∧ Keeps All w W ∧ sl a 1 = (.pointer (some ⟨b1_2, 0, none⟩)) ∧ sl a 3 = (.int .i64 (((k + 1 : Nat) : Int))) ∧ Own W b1_2 [(.int .u8 (x.k)), (.int .i64 (x.n)), (.string (x.t)), (.slice cn0a (x.ns.length) cn0c), (.slice ci0a (x.xs.length) ci0c)] 33 ∧ Rd W (SA w S [b1_2]) (strsD (x.ns)) (.slice cn0a (x.ns.length) cn0c) ∧ Rd W (SA w S [b1_2]) (valsD (x.xs)) (.slice ci0a (x.xs.length) ci0c)) ⟨hsz11, hdf11, kw, e1, (e3.trans (congrArg (Value.int .i64) (rfl))), own_b1_2, D_cn0, D_ci0⟩ ?_
      clear kw e1 e3 own_b1_2 D_cn0 D_ci0
      rintro k a12 W12 hkk ⟨hsz12, hdf12, kw, e1, e3, own_b1_2, D_cn0, D_ci0⟩
      refine wp_seq_k fun K13 hK13 => ?_
      refine wp_seq_k fun K14 hK14 => ?_
      refine wp_reg All mixed hsz12 hdf12 st_tr trivial ?_
      refine Chain.op (φ := Is (.int .i64 (((k + 1 : Nat) : Int)))) (st_is _) (sp_move (Has.base rfl e3)) ?_
      refine Chain.op (φ := Is (.pointer (some ⟨b1_2, 3, none⟩))) (st_is _) (sp_fieldO (Has.base rfl e1) Try.underlying33 rfl sz23 rfl) ?_
      refine Chain.op (φ := Is (.slice cn0a (x.ns.length) cn0c)) (st_is _) (sp_loadO (v := (.slice cn0a (x.ns.length) cn0c)) (Has.loc rfl) own_b1_2 trivial agg23 sz23 (Nat.le_of_ble_eq_true rfl) (fun h => by first | rfl | cases h) rfl) ?_
      refine Chain.op (φ := Is (.int .i64 (x.ns.length))) (st_is _) (sp_lenSs Try.underlying23 ((Has.loc rfl).dat D_cn0 sub_all)) ?_
      refine Chain.op (φ := Is (.bool (decide ((((k + 1 : Nat) : Int) : Int) < (x.ns.length : Int))))) (st_is _) (sp_lss (Has.loc rfl) (Has.loc rfl)) ?_
      refine Chain.done ⟨by kernel_rfl, fun a15 g W15 hsz15 hdf15 hk hg henv hrest hpsi => ?_⟩
      obtain ⟨e22, -, -, -, -, -⟩ := henv
      replace e1 := (hrest 1 rfl).trans e1
      replace e3 := (hrest 3 rfl).trans e3
      replace D_cn0 := D_cn0.ext hk
      replace D_ci0 := D_ci0.ext hk
      have e22 : sl a15 22 = (.bool (decide ((((k + 1 : Nat) : Int) : Int) < (x.ns.length : Int)))) := e22
      replace own_b1_2 := own_b1_2.ext hk
      replace kw := kw.trans (.of_ext hk)
      clear hrest hk hg hpsi
      refine tail_nil (hK14 _ _ ?_)
      refine wp_cond_split e22 (fun hc => ?_) (fun hc => ?_)
      · -- T: decide ((((k + 1 : Nat) : Int) : Int) < (x.ns.length : Int))
        have hlt : k + 1 < x.ns.length := by have := of_decide_eq_true hc; omega
        refine wp_skip (hK13 _ _ ?_)
        refine wp_seq_k fun K16 hK16 => ?_
        refine wp_block ?_
        refine wp_seq_k fun K17 hK17 => ?_
        refine wp_reg All mixed hsz15 hdf15 st_tr trivial ?_
        refine Chain.op (φ := Is (.pointer (some ⟨b1_2, 3, none⟩))) (st_is _) (sp_fieldO (Has.base rfl e1) Try.underlying33 rfl sz23 rfl) ?_
        refine Chain.op (φ := Is (.slice cn0a (x.ns.length) cn0c)) (st_is _) (sp_loadO (v := (.slice cn0a (x.ns.length) cn0c)) (Has.loc rfl) own_b1_2 trivial agg23 sz23 (Nat.le_of_ble_eq_true rfl) (fun h => by first | rfl | cases h) rfl) ?_
        refine Chain.op (φ := Is (.int .i64 (((k + 1 : Nat) : Int)))) (st_is _) (sp_move (Has.base rfl e3)) ?_
        refine Chain.op (φ := Is (.int .i64 ((((k + 1 : Nat) : Int) : Int) - (1 : Int)))) (st_is _) (sp_sub (Has.loc rfl) Has.cst (i64_in (by omega))) ?_
        refine Chain.op (φ := IsR (SA w S [b1_2]) (D.str (x.ns[k]'(by omega)))) (st_r sub_all) (sp_indexS (i := k) ((Has.loc rfl).dat D_cn0 sub_all) (Has.loc rfl) Try.underlying23 sz9 (by omega) (by omega)) ?_
        refine Chain.op (φ := Is (.string (x.ns[k]'(by omega)))) (st_is _) (sp_loadStr (Has.loc rfl) agg9 sz9) ?_
        refine Chain.op (φ := Is (.pointer (some ⟨b1_2, 3, none⟩))) (st_is _) (sp_fieldO (Has.base rfl e1) Try.underlying33 rfl sz23 rfl) ?_
        refine Chain.op (φ := Is (.slice cn0a (x.ns.length) cn0c)) (st_is _) (sp_loadO (v := (.slice cn0a (x.ns.length) cn0c)) (Has.loc rfl) own_b1_2 trivial agg23 sz23 (Nat.le_of_ble_eq_true rfl) (fun h => by first | rfl | cases h) rfl) ?_
        refine Chain.op (φ := Is (.int .i64 (((k + 1 : Nat) : Int)))) (st_is _) (sp_move (Has.base rfl e3)) ?_
        refine Chain.op (φ := IsR (SA w S [b1_2]) (D.str (x.ns[(k + 1)]'hlt))) (st_r sub_all) (sp_indexS (i := (k + 1)) ((Has.loc rfl).dat D_cn0 sub_all) (Has.loc rfl) Try.underlying23 sz9 rfl hlt) ?_
        refine Chain.op (φ := Is (.string (x.ns[(k + 1)]'hlt))) (st_is _) (sp_loadStr (Has.loc rfl) agg9 sz9) ?_
        refine Chain.op (φ := Is (.bool (!sLt (x.ns[k]'(by omega)) (x.ns[(k + 1)]'hlt)))) (st_is _) (sp_sGeq (Has.loc rfl) (Has.loc rfl)) ?_
        refine Chain.done ⟨by kernel_rfl, fun a18 g W18 hsz18 hdf18 hk hg henv hrest hpsi => ?_⟩
        obtain ⟨e36, -, -, -, -, -, -, -, -, -, -, -, -⟩ := henv
        replace e1 := (hrest 1 rfl).trans e1
        replace e3 := (hrest 3 rfl).trans e3
        replace D_cn0 := D_cn0.ext hk
        replace D_ci0 := D_ci0.ext hk
        have e36 : sl a18 36 = (.bool (!sLt (x.ns[k]'(by omega)) (x.ns[(k + 1)]'hlt))) := e36
        replace own_b1_2 := own_b1_2.ext hk
        replace kw := kw.trans (.of_ext hk)
        clear hrest hk hg hpsi
        refine tail_nil (hK17 _ _ ?_)
        refine wp_cond_split e36 (fun hc => ?_) (fun hc => ?_)
        · -- T: !sLt (x.ns[k]'(by omega)) (x.ns[(k + 1)]'hlt)
          exfalso
          have h1 := (asc_iff x.ns).1 hk5.2.2 k hlt
          simp [h1] at hc
        · -- E: !sLt (x.ns[k]'(by omega)) (x.ns[(k + 1)]'hlt)
          refine wp_skip (hK16 _ _ ?_)
          refine wp_reg All mixed hsz18 hdf18 st_tr trivial ?_
          refine Chain.op (φ := Is (.int .i64 (((k + 1 : Nat) : Int)))) (st_is _) (sp_move (Has.base rfl e3)) ?_
          refine Chain.op (φ := Is (.int .i64 ((((k + 1 : Nat) : Int) : Int) + (1 : Int)))) (st_is _) (sp_add (Has.loc rfl) Has.cst (i64_in (by omega))) ?_
          refine Chain.op (φ := Is (.int .i64 ((((k + 1 : Nat) : Int) : Int) + (1 : Int)))) (st_is _) (sp_assign (Has.loc rfl)) ?_
          refine Chain.done ⟨by kernel_rfl, fun a19 g W19 hsz19 hdf19 hk hg henv hrest hpsi => ?_⟩
          obtain ⟨e3, -, -, -⟩ := henv
          replace e1 := (hrest 1 rfl).trans e1
          replace D_cn0 := D_cn0.ext hk
          replace D_ci0 := D_ci0.ext hk
          have e3 : sl a19 3 = (.int .i64 ((((k + 1 : Nat) : Int) : Int) + (1 : Int))) := e3
          replace own_b1_2 := own_b1_2.ext hk
          replace kw := kw.trans (.of_ext hk)
          clear hrest hk hg hpsi
          exact tail_nil ⟨by omega, hsz19, hdf19, kw, e1, (e3.trans (congrArg (Value.int .i64) (by omega))), own_b1_2, D_cn0, D_ci0⟩
      · -- E: decide ((((k + 1 : Nat) : Int) : Int) < (x.ns.length : Int))
        refine wp_exit (hK9 _ _ ?_)
        refine wp_seq_k fun K20 hK20 => ?_
        refine wp_reg All mixed hsz15 hdf15 st_tr trivial ?_
        refine Chain.op (φ := Is (.agg #[(.int .u8 (x.k)), (.int .i64 (x.n)), (.string (x.t)), (.slice cn0a (x.ns.length) cn0c), (.slice ci0a (x.xs.length) ci0c)])) (st_is _) (sp_loadO (v := (.agg #[(.int .u8 (x.k)), (.int .i64 (x.n)), (.string (x.t)), (.slice cn0a (x.ns.length) cn0c), (.slice ci0a (x.xs.length) ci0c)])) (Has.base rfl e1) own_b1_2 trivial agg33 sz33 (Nat.le_of_ble_eq_true rfl) (fun h => by first | rfl | cases h) rfl) ?_
        refine Chain.op (φ := IsD (Fr W15) (V.d (x))) (st_d sub_all) (sp_call1 (φ1 := IsD (SA w S [b1_2]) (V.d (x))) ent36 ((Has.loc rfl).dat (rdV_in (x := x) ht0 D_cn0 D_ci0 : Rd W15 (SA w S [b1_2]) (V.d (x)) _) sub_all) (fun g u1 W hk hgk h1 => (Copy_ok (x) (by first | omega | exact Nat.le_of_ble_eq_true (by kernel_rfl)) W _ _ (fun b o h => sa_cln hS b o h.1) h1).mono (ret_fr hk hgk))) ?_
        refine Chain.done ⟨by kernel_rfl, fun a21 g W21 hsz21 hdf21 hk hg henv hrest hpsi => ?_⟩
        obtain ⟨e40, -, -⟩ := henv
        replace D_cn0 := D_cn0.ext hk
        replace D_ci0 := D_ci0.ext hk
        obtain ⟨v40_21, ev⟩ : ∃ v, sl a21 40 = v := ⟨_, rfl⟩
        rw [ev] at e40
        have D_v40_21 : Rd W21 (SF w [b1_2]) (V.d (x)) v40_21 := fr_end (M := [b1_2]) e40 kw [] in_nil (in_cons own_b1_2.lt in_nil)
        replace e40 := ev; clear ev
        obtain ⟨cn40_21a, cn40_21c, ci40_21a, ci40_21c, ev, ht_v40_21, D_cn40_21, D_ci40_21⟩ := rdV_out D_v40_21
        subst ev; clear D_v40_21
        replace own_b1_2 := own_b1_2.ext hk
        replace kw := kw.trans (.of_ext hk)
        clear hrest hk hg hpsi
        refine tail_reg 1 All hsz21 hdf21 st_tr trivial rfl ?_
        refine Chain.mkMap ?_
        refine Chain.done ⟨by kernel_rfl, fun a22 g W22 hsz22 hdf22 hk hg henv hrest hpsi => ?_⟩
        refine tail_nil ?_
        show runTail _ _ _ _ _ _
        obtain ⟨⟨b41_22, e41, hb41, own_b41_22⟩, -⟩ := henv
        have lo_b41_22 : w.heap.size ≤ b41_22 := Nat.le_trans kw.size (hg.lo _ _ hb41)
        have ne_b1_2_b41_22 : b1_2 ≠ b41_22 := Nat.ne_of_lt (Nat.lt_of_lt_of_le own_b1_2.lt (hg.lo _ _ hb41))
        have own_b41_22 : OwnM W22 b41_22 ([]) := own_b41_22
        replace e40 := (hrest 40 rfl).trans e40
        replace D_cn40_21 := sf_more D_cn40_21 hk [b41_22] (in_cons (hg.lo _ _ hb41) in_nil)
        replace D_ci40_21 := sf_more D_ci40_21 hk [b41_22] (in_cons (hg.lo _ _ hb41) in_nil)
        replace own_b1_2 := own_b1_2.ext hk
        replace kw := kw.trans (.of_ext hk)
        clear hrest hk hg hpsi hb41
        refine tail_reg 2 All hsz22 hdf22 st_tr trivial rfl ?_
        refine Chain.op (φ := Is (.agg #[(.int .u8 (x.k)), (.int .i64 (x.n)), (.string (x.t)), (.slice cn40_21a (x.ns.length) cn40_21c), (.slice ci40_21a (x.xs.length) ci40_21c), (.map (some b41_22)), (.int .i64 (0))])) (st_is _) (sp_build (vs := [(0, (.agg #[(.int .u8 (x.k)), (.int .i64 (x.n)), (.string (x.t)), (.slice cn40_21a (x.ns.length) cn40_21c), (.slice ci40_21a (x.xs.length) ci40_21c)])), (1, (.map (some b41_22)))]) Try.underlying69 z69 (pl69 Try.underlying69) ⟨rfl, (Has.base rfl e40), rfl, (Has.base rfl e41), trivial⟩ (by kernel_rfl)) ?_
        refine Chain.boxOp (v := (.agg #[(.int .u8 (x.k)), (.int .i64 (x.n)), (.string (x.t)), (.slice cn40_21a (x.ns.length) cn40_21c), (.slice ci40_21a (x.xs.length) ci40_21c), (.map (some b41_22)), (.int .i64 (0))])) (Has.loc rfl) ?_
        refine Chain.done ⟨by kernel_rfl, fun a23 g W23 hsz23 hdf23 hk hg henv hrest hpsi => ?_⟩
        refine tail_nil ?_
        show runTail _ _ _ _ _ _
        obtain ⟨⟨b43_23, e43, hb43, own_b43_23⟩, -, -⟩ := henv
        have lo_b43_23 : w.heap.size ≤ b43_23 := Nat.le_trans kw.size (hg.lo _ _ hb43)
        have ne_b1_2_b43_23 : b1_2 ≠ b43_23 := Nat.ne_of_lt (Nat.lt_of_lt_of_le own_b1_2.lt (hg.lo _ _ hb43))
        have ne_b41_22_b43_23 : b41_22 ≠ b43_23 := Nat.ne_of_lt (Nat.lt_of_lt_of_le own_b41_22.lt (hg.lo _ _ hb43))
        have own_b43_23 : Own W23 b43_23 [(.int .u8 (x.k)), (.int .i64 (x.n)), (.string (x.t)), (.slice cn40_21a (x.ns.length) cn40_21c), (.slice ci40_21a (x.xs.length) ci40_21c), (.map (some b41_22)), (.int .i64 (0))] 69 := own_b43_23
        replace D_cn40_21 := sf_more D_cn40_21 hk [b43_23] (in_cons (hg.lo _ _ hb43) in_nil)
        replace D_ci40_21 := sf_more D_ci40_21 hk [b43_23] (in_cons (hg.lo _ _ hb43) in_nil)
        replace own_b1_2 := own_b1_2.ext hk
        replace own_b41_22 := own_b41_22.ext hk
        replace kw := kw.trans (.of_ext hk)
        clear hrest hk hg hpsi hb43
        refine tail_assign (v := (.pointer (some ⟨b43_23, 0, none⟩))) e43 (by rw [hsz23]; exact Nat.le_of_ble_eq_true rfl) (fun a24 hsz24 hdf24 e2 hr => ?_)
        replace hsz24 := hsz24.trans hsz23; replace hdf24 := hdf24.trans hdf23
        replace e43 := (hr 43 (by decide)).trans e43
        clear hr
        refine tail_nil (hK20 _ _ ?_)
        refine wp_ret ?_
        refine (show bodyPost Try.prog Try.f16 _ .ret _ _ from ret1 rfl hdf24 e2 ⟨_, rfl, kw, ?_⟩)
        exact ⟨b43_23, b41_22, _, _, rfl, lo_b43_23, lo_b41_22, ne_b41_22_b43_23.symm, own_b43_23, own_b41_22, sf_pkf (by simp) D_cn40_21, sf_pkf (by simp) D_ci40_21, ht_v40_21⟩

set_option maxRecDepth 100000 in
theorem OfD_ok (x : V) (hof : ofE x ≠ 0) (w : World) (S : BSet) (v : Value) (hv : Rd w S x.d v) : Calls Try.prog 16 #[v] w (Ret w fun u W => PkD w W 69 (ofE x) u) := by
  have hmn : x.ns.length ≤ maxLen := by obtain ⟨_, _, _, _, _, _, h, _⟩ := rdV_out hv; exact rd_lenS h
  simp only [maxLen] at hmn
  obtain ⟨cn0a, cn0c, ci0a, ci0c, ev, ht0, D_cn0, D_ci0⟩ := rdV_out (rd_arg hv)
  subst ev
  refine enter Try.func16 rfl Try.ntmps16 (Nat.le_of_ble_eq_true rfl) fun a0 hsz0 hdf0 harg => ?_
  have e0 : sl a0 0 = (.agg #[(.int .u8 (x.k)), (.int .i64 (x.n)), (.string (x.t)), (.slice cn0a (x.ns.length) cn0c), (.slice ci0a (x.xs.length) ci0c)]) := harg 0 (Nat.le_of_ble_eq_true rfl)
  have kw := Keeps.refl All w
  clear harg
  refine wp_seq_k fun K1 hK1 => ?_
  refine wp_reg All mixed hsz0 hdf0 st_tr trivial ?_
  refine Chain.boxOp (v := (.agg #[(.int .u8 (x.k)), (.int .i64 (x.n)), (.string (x.t)), (.slice cn0a (x.ns.length) cn0c), (.slice ci0a (x.xs.length) ci0c)])) (Has.base rfl e0) ?_
  refine Chain.op (φ := Is (.pointer none)) (st_is _) (sp_assign Has.cst) ?_
  refine Chain.done ⟨by kernel_rfl, fun a2 g W2 hsz2 hdf2 hk hg henv hrest hpsi => ?_⟩
  obtain ⟨-, ⟨b1_2, e1, hb1, own_b1_2⟩, -⟩ := henv
  have lo_b1_2 : w.heap.size ≤ b1_2 := Nat.le_trans kw.size (hg.lo _ _ hb1)
  have own_b1_2 : Own W2 b1_2 [(.int .u8 (x.k)), (.int .i64 (x.n)), (.string (x.t)), (.slice cn0a (x.ns.length) cn0c), (.slice ci0a (x.xs.length) ci0c)] 33 := own_b1_2
  replace D_cn0 := sa_more D_cn0 hk [b1_2] (in_cons (hg.lo _ _ hb1) in_nil)
  replace D_ci0 := sa_more D_ci0 hk [b1_2] (in_cons (hg.lo _ _ hb1) in_nil)
  replace kw := kw.trans (.of_ext hk)
  clear hrest hk hg hpsi hb1
  refine tail_nil (hK1 _ _ ?_)
  refine wp_seq_k fun K3 hK3 => ?_
  refine wp_seq_k fun K4 hK4 => ?_
  refine wp_reg All mixed hsz2 hdf2 st_tr trivial ?_
  refine Chain.op (φ := Is (.pointer (some ⟨b1_2, 0, none⟩))) (st_is _) (sp_fieldO (Has.base rfl e1) Try.underlying33 rfl sz5 rfl) ?_
  refine Chain.op (φ := Is (.int .u8 (x.k))) (st_is _) (sp_loadO (v := (.int .u8 (x.k))) (Has.loc rfl) own_b1_2 trivial agg5 sz5 (Nat.le_of_ble_eq_true rfl) (fun h => by first | rfl | cases h) rfl) ?_
  refine Chain.op (φ := Is (.bool ((x.k : Int) != (5 : Int)))) (st_is _) (sp_neq (Has.loc rfl) Has.cst) ?_
  refine Chain.done ⟨by kernel_rfl, fun a5 g W5 hsz5 hdf5 hk hg henv hrest hpsi => ?_⟩
  obtain ⟨e6, -, -, -⟩ := henv
  replace e1 := (hrest 1 rfl).trans e1
  replace D_cn0 := D_cn0.ext hk
  replace D_ci0 := D_ci0.ext hk
  have e6 : sl a5 6 = (.bool ((x.k : Int) != (5 : Int))) := e6
  replace own_b1_2 := own_b1_2.ext hk
  replace kw := kw.trans (.of_ext hk)
  clear hrest hk hg hpsi
  refine tail_nil (hK4 _ _ ?_)
  refine wp_cond_split e6 (fun hc => ?_) (fun hc => ?_)
  · -- T: (x.k : Int) != (5 : Int)
    have hf : ofE x = 10 := by rw [ofE, if_pos (by simp at hc; omega)]
    refine wp_seq_k fun K6 hK6 => ?_
    refine wp_reg All mixed hsz5 hdf5 st_tr trivial ?_
    refine Chain.op (φ := Is (.agg #[(.int .u8 (0)), (.int .i64 (0)), (.string (⟨#[]⟩)), (.slice none 0 0), (.slice none 0 0), (.map none), (.int .i64 (10))])) (st_is _) (sp_build (vs := [(2, (.int .i64 (10)))]) Try.underlying69 z69 (pl69 Try.underlying69) ⟨rfl, Has.cst, trivial⟩ rfl) ?_
    refine Chain.boxOp (v := (.agg #[(.int .u8 (0)), (.int .i64 (0)), (.string (⟨#[]⟩)), (.slice none 0 0), (.slice none 0 0), (.map none), (.int .i64 (10))])) (Has.loc rfl) ?_
    refine Chain.done ⟨by kernel_rfl, fun a7 g W7 hsz7 hdf7 hk hg henv hrest hpsi => ?_⟩
    obtain ⟨⟨b8_7, e8, hb8, own_b8_7⟩, -, -⟩ := henv
    have lo_b8_7 : w.heap.size ≤ b8_7 := Nat.le_trans kw.size (hg.lo _ _ hb8)
    have ne_b1_2_b8_7 : b1_2 ≠ b8_7 := Nat.ne_of_lt (Nat.lt_of_lt_of_le own_b1_2.lt (hg.lo _ _ hb8))
    have own_b8_7 : Own W7 b8_7 [(.int .u8 (0)), (.int .i64 (0)), (.string (⟨#[]⟩)), (.slice none 0 0), (.slice none 0 0), (.map none), (.int .i64 (10))] 69 := own_b8_7
    replace D_cn0 := sa_more D_cn0 hk [b8_7] (in_cons (hg.lo _ _ hb8) in_nil)
    replace D_ci0 := sa_more D_ci0 hk [b8_7] (in_cons (hg.lo _ _ hb8) in_nil)
    replace own_b1_2 := own_b1_2.ext hk
    replace kw := kw.trans (.of_ext hk)
    clear hrest hk hg hpsi hb8
    refine tail_assign (v := (.pointer (some ⟨b8_7, 0, none⟩))) e8 (by rw [hsz7]; exact Nat.le_of_ble_eq_true rfl) (fun a8 hsz8 hdf8 e2 hr => ?_)
    replace hsz8 := hsz8.trans hsz7; replace hdf8 := hdf8.trans hdf7
    replace e8 := (hr 8 (by decide)).trans e8
    clear hr
    refine tail_nil (hK6 _ _ ?_)
    refine wp_ret ?_
    refine (show bodyPost Try.prog Try.f16 _ .ret _ _ from ret1 rfl hdf8 e2 ⟨_, rfl, kw, ?_⟩)
    rw [hf]
    exact ⟨b8_7, rfl, lo_b8_7, own_b8_7⟩
  · -- E: (x.k : Int) != (5 : Int)
    have hk : ¬ x.k ≠ 5 := by simp at hc; omega
    refine wp_skip (hK3 _ _ ?_)
    refine wp_seq_k fun K9 hK9 => ?_
    refine wp_seq_k fun K10 hK10 => ?_
    refine wp_reg All mixed hsz5 hdf5 st_tr trivial ?_
    refine Chain.op (φ := Is (.pointer (some ⟨b1_2, 3, none⟩))) (st_is _) (sp_fieldO (Has.base rfl e1) Try.underlying33 rfl sz23 rfl) ?_
    refine Chain.op (φ := Is (.slice cn0a (x.ns.length) cn0c)) (st_is _) (sp_loadO (v := (.slice cn0a (x.ns.length) cn0c)) (Has.loc rfl) own_b1_2 trivial agg23 sz23 (Nat.le_of_ble_eq_true rfl) (fun h => by first | rfl | cases h) rfl) ?_
    refine Chain.op (φ := Is (.int .i64 (x.ns.length))) (st_is _) (sp_lenSs Try.underlying23 ((Has.loc rfl).dat D_cn0 sub_all)) ?_
    refine Chain.op (φ := Is (.pointer (some ⟨b1_2, 4, none⟩))) (st_is _) (sp_fieldO (Has.base rfl e1) Try.underlying33 rfl sz31 rfl) ?_
    refine Chain.op (φ := Is (.slice ci0a (x.xs.length) ci0c)) (st_is _) (sp_loadO (v := (.slice ci0a (x.xs.length) ci0c)) (Has.loc rfl) own_b1_2 trivial agg31 sz31 (Nat.le_of_ble_eq_true rfl) (fun h => by first | rfl | cases h) rfl) ?_
    refine Chain.op (φ := Is (.int .i64 (x.xs.length))) (st_is _) (sp_lenVs Try.underlying31 ((Has.loc rfl).dat D_ci0 sub_all)) ?_
    refine Chain.op (φ := Is (.bool ((x.ns.length : Int) != (x.xs.length : Int)))) (st_is _) (sp_neq (Has.loc rfl) (Has.loc rfl)) ?_
    refine Chain.done ⟨by kernel_rfl, fun a11 g W11 hsz11 hdf11 hk hg henv hrest hpsi => ?_⟩
    obtain ⟨e15, -, -, -, -, -, -, -⟩ := henv
    replace e1 := (hrest 1 rfl).trans e1
    replace D_cn0 := D_cn0.ext hk
    replace D_ci0 := D_ci0.ext hk
    have e15 : sl a11 15 = (.bool ((x.ns.length : Int) != (x.xs.length : Int))) := e15
    replace own_b1_2 := own_b1_2.ext hk
    replace kw := kw.trans (.of_ext hk)
    clear hrest hk hg hpsi
    refine tail_nil (hK10 _ _ ?_)
    refine wp_cond_split e15 (fun hc => ?_) (fun hc => ?_)
    · -- T: (x.ns.length : Int) != (x.xs.length : Int)
      have hf : ofE x = 3 := by rw [ofE, if_neg hk, if_pos (.inl (by simp at hc; omega))]
      refine wp_seq_k fun K12 hK12 => ?_
      refine wp_reg All mixed hsz11 hdf11 st_tr trivial ?_
      refine Chain.op (φ := Is (.agg #[(.int .u8 (0)), (.int .i64 (0)), (.string (⟨#[]⟩)), (.slice none 0 0), (.slice none 0 0), (.map none), (.int .i64 (3))])) (st_is _) (sp_build (vs := [(2, (.int .i64 (3)))]) Try.underlying69 z69 (pl69 Try.underlying69) ⟨rfl, Has.cst, trivial⟩ rfl) ?_
      refine Chain.boxOp (v := (.agg #[(.int .u8 (0)), (.int .i64 (0)), (.string (⟨#[]⟩)), (.slice none 0 0), (.slice none 0 0), (.map none), (.int .i64 (3))])) (Has.loc rfl) ?_
      refine Chain.done ⟨by kernel_rfl, fun a13 g W13 hsz13 hdf13 hk hg henv hrest hpsi => ?_⟩
      obtain ⟨⟨b17_13, e17, hb17, own_b17_13⟩, -, -⟩ := henv
      have lo_b17_13 : w.heap.size ≤ b17_13 := Nat.le_trans kw.size (hg.lo _ _ hb17)
      have ne_b1_2_b17_13 : b1_2 ≠ b17_13 := Nat.ne_of_lt (Nat.lt_of_lt_of_le own_b1_2.lt (hg.lo _ _ hb17))
      have own_b17_13 : Own W13 b17_13 [(.int .u8 (0)), (.int .i64 (0)), (.string (⟨#[]⟩)), (.slice none 0 0), (.slice none 0 0), (.map none), (.int .i64 (3))] 69 := own_b17_13
      replace D_cn0 := sa_more D_cn0 hk [b17_13] (in_cons (hg.lo _ _ hb17) in_nil)
      replace D_ci0 := sa_more D_ci0 hk [b17_13] (in_cons (hg.lo _ _ hb17) in_nil)
      replace own_b1_2 := own_b1_2.ext hk
      replace kw := kw.trans (.of_ext hk)
      clear hrest hk hg hpsi hb17
      refine tail_assign (v := (.pointer (some ⟨b17_13, 0, none⟩))) e17 (by rw [hsz13]; exact Nat.le_of_ble_eq_true rfl) (fun a14 hsz14 hdf14 e2 hr => ?_)
      replace hsz14 := hsz14.trans hsz13; replace hdf14 := hdf14.trans hdf13
      replace e17 := (hr 17 (by decide)).trans e17
      clear hr
      refine tail_nil (hK12 _ _ ?_)
      refine wp_ret ?_
      refine (show bodyPost Try.prog Try.f16 _ .ret _ _ from ret1 rfl hdf14 e2 ⟨_, rfl, kw, ?_⟩)
      rw [hf]
      exact ⟨b17_13, rfl, lo_b17_13, own_b17_13⟩
    · -- E: (x.ns.length : Int) != (x.xs.length : Int)
      have hl : x.ns.length = x.xs.length := by simp at hc; omega
      refine wp_skip (hK9 _ _ ?_)
      refine wp_seq_k fun K15 hK15 => ?_
      refine wp_seq_k fun K16 hK16 => ?_
      refine wp_reg All mixed hsz11 hdf11 st_tr trivial ?_
      refine Chain.op (φ := Is (.int .i64 (1))) (st_is _) (sp_assign Has.cst) ?_
      refine Chain.done ⟨by kernel_rfl, fun a17 g W17 hsz17 hdf17 hk hg henv hrest hpsi => ?_⟩
      obtain ⟨e3, -⟩ := henv
      replace e1 := (hrest 1 rfl).trans e1
      replace D_cn0 := D_cn0.ext hk
      replace D_ci0 := D_ci0.ext hk
      have e3 : sl a17 3 = (.int .i64 (1)) := e3
      replace own_b1_2 := own_b1_2.ext hk
      replace kw := kw.trans (.of_ext hk)
      clear hrest hk hg hpsi
      refine tail_nil (hK16 _ _ ?_)
      refine wp_block ?_
      refine wp_for (x.ns.length) (fun k a W => a.tmps.size = 44 ∧ a.defers = [] ∧ Keeps All w W ∧ sl a 1 = (.pointer (some ⟨b1_2, 0, none⟩)) ∧ sl a 3 = (.int .i64 (((k + 1 : Nat) : Int))) ∧ Own W b1_2 [(.int .u8 (x.k)), (.int .i64 (x.n)), (.string (x.t)), (.slice cn0a (x.ns.length) cn0c), (.slice ci0a (x.xs.length) ci0c)] 33 ∧ Rd W (SA w S [b1_2]) (strsD (x.ns)) (.slice cn0a (x.ns.length) cn0c) ∧ Rd W (SA w S [b1_2]) (valsD (x.xs)) (.slice ci0a (x.xs.length) ci0c) ∧ (∀ i (h : i + 1 < x.ns.length), i < k → sLt x.ns[i] x.ns[i + 1] = true)) ⟨hsz17, hdf17, kw, e1, (e3.trans (congrArg (Value.int .i64) (rfl))), own_b1_2, D_cn0, D_ci0, fun i h hi => absurd hi (by omega)⟩ ?_
      clear kw e1 e3 own_b1_2 D_cn0 D_ci0
      rintro k a18 W18 hkk ⟨hsz18, hdf18, kw, e1, e3, own_b1_2, D_cn0, D_ci0, hinv⟩
      refine wp_seq_k fun K19 hK19 => ?_
      refine wp_seq_k fun K20 hK20 => ?_
      refine wp_reg All mixed hsz18 hdf18 st_tr trivial ?_
      refine Chain.op (φ := Is (.int .i64 (((k + 1 : Nat) : Int)))) (st_is _) (sp_move (Has.base rfl e3)) ?_
      refine Chain.op (φ := Is (.pointer (some ⟨b1_2, 3, none⟩))) (st_is _) (sp_fieldO (Has.base rfl e1) Try.underlying33 rfl sz23 rfl) ?_
      refine Chain.op (φ := Is (.slice cn0a (x.ns.length) cn0c)) (st_is _) (sp_loadO (v := (.slice cn0a (x.ns.length) cn0c)) (Has.loc rfl) own_b1_2 trivial agg23 sz23 (Nat.le_of_ble_eq_true rfl) (fun h => by first | rfl | cases h) rfl) ?_
      refine Chain.op (φ := Is (.int .i64 (x.ns.length))) (st_is _) (sp_lenSs Try.underlying23 ((Has.loc rfl).dat D_cn0 sub_all)) ?_
      refine Chain.op (φ := Is (.bool (decide ((((k + 1 : Nat) : Int) : Int) < (x.ns.length : Int))))) (st_is _) (sp_lss (Has.loc rfl) (Has.loc rfl)) ?_
      refine Chain.done ⟨by kernel_rfl, fun a21 g W21 hsz21 hdf21 hk hg henv hrest hpsi => ?_⟩
      obtain ⟨e22, -, -, -, -, -⟩ := henv
      replace e1 := (hrest 1 rfl).trans e1
      replace e3 := (hrest 3 rfl).trans e3
      replace D_cn0 := D_cn0.ext hk
      replace D_ci0 := D_ci0.ext hk
      have e22 : sl a21 22 = (.bool (decide ((((k + 1 : Nat) : Int) : Int) < (x.ns.length : Int)))) := e22
      replace own_b1_2 := own_b1_2.ext hk
      replace kw := kw.trans (.of_ext hk)
      clear hrest hk hg hpsi
      refine tail_nil (hK20 _ _ ?_)
      refine wp_cond_split e22 (fun hc => ?_) (fun hc => ?_)
      · -- T: decide ((((k + 1 : Nat) : Int) : Int) < (x.ns.length : Int))
        have hlt : k + 1 < x.ns.length := by have := of_decide_eq_true hc; omega
        refine wp_skip (hK19 _ _ ?_)
        refine wp_seq_k fun K22 hK22 => ?_
        refine wp_block ?_
        refine wp_seq_k fun K23 hK23 => ?_
        refine wp_reg All mixed hsz21 hdf21 st_tr trivial ?_
        refine Chain.op (φ := Is (.pointer (some ⟨b1_2, 3, none⟩))) (st_is _) (sp_fieldO (Has.base rfl e1) Try.underlying33 rfl sz23 rfl) ?_
        refine Chain.op (φ := Is (.slice cn0a (x.ns.length) cn0c)) (st_is _) (sp_loadO (v := (.slice cn0a (x.ns.length) cn0c)) (Has.loc rfl) own_b1_2 trivial agg23 sz23 (Nat.le_of_ble_eq_true rfl) (fun h => by first | rfl | cases h) rfl) ?_
        refine Chain.op (φ := Is (.int .i64 (((k + 1 : Nat) : Int)))) (st_is _) (sp_move (Has.base rfl e3)) ?_
        refine Chain.op (φ := Is (.int .i64 ((((k + 1 : Nat) : Int) : Int) - (1 : Int)))) (st_is _) (sp_sub (Has.loc rfl) Has.cst (i64_in (by omega))) ?_
        refine Chain.op (φ := IsR (SA w S [b1_2]) (D.str (x.ns[k]'(by omega)))) (st_r sub_all) (sp_indexS (i := k) ((Has.loc rfl).dat D_cn0 sub_all) (Has.loc rfl) Try.underlying23 sz9 (by omega) (by omega)) ?_
        refine Chain.op (φ := Is (.string (x.ns[k]'(by omega)))) (st_is _) (sp_loadStr (Has.loc rfl) agg9 sz9) ?_
        refine Chain.op (φ := Is (.pointer (some ⟨b1_2, 3, none⟩))) (st_is _) (sp_fieldO (Has.base rfl e1) Try.underlying33 rfl sz23 rfl) ?_
        refine Chain.op (φ := Is (.slice cn0a (x.ns.length) cn0c)) (st_is _) (sp_loadO (v := (.slice cn0a (x.ns.length) cn0c)) (Has.loc rfl) own_b1_2 trivial agg23 sz23 (Nat.le_of_ble_eq_true rfl) (fun h => by first | rfl | cases h) rfl) ?_
        refine Chain.op (φ := Is (.int .i64 (((k + 1 : Nat) : Int)))) (st_is _) (sp_move (Has.base rfl e3)) ?_
        refine Chain.op (φ := IsR (SA w S [b1_2]) (D.str (x.ns[(k + 1)]'hlt))) (st_r sub_all) (sp_indexS (i := (k + 1)) ((Has.loc rfl).dat D_cn0 sub_all) (Has.loc rfl) Try.underlying23 sz9 rfl hlt) ?_
        refine Chain.op (φ := Is (.string (x.ns[(k + 1)]'hlt))) (st_is _) (sp_loadStr (Has.loc rfl) agg9 sz9) ?_
        refine Chain.op (φ := Is (.bool (!sLt (x.ns[k]'(by omega)) (x.ns[(k + 1)]'hlt)))) (st_is _) (sp_sGeq (Has.loc rfl) (Has.loc rfl)) ?_
        refine Chain.done ⟨by kernel_rfl, fun a24 g W24 hsz24 hdf24 hk hg henv hrest hpsi => ?_⟩
        obtain ⟨e36, -, -, -, -, -, -, -, -, -, -, -, -⟩ := henv
        replace e1 := (hrest 1 rfl).trans e1
        replace e3 := (hrest 3 rfl).trans e3
        replace D_cn0 := D_cn0.ext hk
        replace D_ci0 := D_ci0.ext hk
        have e36 : sl a24 36 = (.bool (!sLt (x.ns[k]'(by omega)) (x.ns[(k + 1)]'hlt))) := e36
        replace own_b1_2 := own_b1_2.ext hk
        replace kw := kw.trans (.of_ext hk)
        clear hrest hk hg hpsi
        refine tail_nil (hK23 _ _ ?_)
        refine wp_cond_split e36 (fun hc => ?_) (fun hc => ?_)
        · -- T: !sLt (x.ns[k]'(by omega)) (x.ns[(k + 1)]'hlt)
          have hf : ofE x = 3 := by rw [ofE, if_neg hk, if_pos (.inr (asc_false hlt (by simpa using hc)))]
          refine wp_seq_k fun K25 hK25 => ?_
          refine wp_reg All mixed hsz24 hdf24 st_tr trivial ?_
          refine Chain.op (φ := Is (.agg #[(.int .u8 (0)), (.int .i64 (0)), (.string (⟨#[]⟩)), (.slice none 0 0), (.slice none 0 0), (.map none), (.int .i64 (3))])) (st_is _) (sp_build (vs := [(2, (.int .i64 (3)))]) Try.underlying69 z69 (pl69 Try.underlying69) ⟨rfl, Has.cst, trivial⟩ rfl) ?_
          refine Chain.boxOp (v := (.agg #[(.int .u8 (0)), (.int .i64 (0)), (.string (⟨#[]⟩)), (.slice none 0 0), (.slice none 0 0), (.map none), (.int .i64 (3))])) (Has.loc rfl) ?_
          refine Chain.done ⟨by kernel_rfl, fun a26 g W26 hsz26 hdf26 hk hg henv hrest hpsi => ?_⟩
          obtain ⟨⟨b38_26, e38, hb38, own_b38_26⟩, -, -⟩ := henv
          have lo_b38_26 : w.heap.size ≤ b38_26 := Nat.le_trans kw.size (hg.lo _ _ hb38)
          have ne_b1_2_b38_26 : b1_2 ≠ b38_26 := Nat.ne_of_lt (Nat.lt_of_lt_of_le own_b1_2.lt (hg.lo _ _ hb38))
          have own_b38_26 : Own W26 b38_26 [(.int .u8 (0)), (.int .i64 (0)), (.string (⟨#[]⟩)), (.slice none 0 0), (.slice none 0 0), (.map none), (.int .i64 (3))] 69 := own_b38_26
          replace D_cn0 := sa_more D_cn0 hk [b38_26] (in_cons (hg.lo _ _ hb38) in_nil)
          replace D_ci0 := sa_more D_ci0 hk [b38_26] (in_cons (hg.lo _ _ hb38) in_nil)
          replace own_b1_2 := own_b1_2.ext hk
          replace kw := kw.trans (.of_ext hk)
          clear hrest hk hg hpsi hb38
          refine tail_assign (v := (.pointer (some ⟨b38_26, 0, none⟩))) e38 (by rw [hsz26]; exact Nat.le_of_ble_eq_true rfl) (fun a27 hsz27 hdf27 e2 hr => ?_)
          replace hsz27 := hsz27.trans hsz26; replace hdf27 := hdf27.trans hdf26
          replace e38 := (hr 38 (by decide)).trans e38
          clear hr
          refine tail_nil (hK25 _ _ ?_)
          refine wp_ret ?_
          refine (show bodyPost Try.prog Try.f16 _ .ret _ _ from ret1 rfl hdf27 e2 ⟨_, rfl, kw, ?_⟩)
          rw [hf]
          exact ⟨b38_26, rfl, lo_b38_26, own_b38_26⟩
        · -- E: !sLt (x.ns[k]'(by omega)) (x.ns[(k + 1)]'hlt)
          have hk1 : sLt x.ns[k] x.ns[k + 1] = true := by simpa using hc
          refine wp_skip (hK22 _ _ ?_)
          refine wp_reg All mixed hsz24 hdf24 st_tr trivial ?_
          refine Chain.op (φ := Is (.int .i64 (((k + 1 : Nat) : Int)))) (st_is _) (sp_move (Has.base rfl e3)) ?_
          refine Chain.op (φ := Is (.int .i64 ((((k + 1 : Nat) : Int) : Int) + (1 : Int)))) (st_is _) (sp_add (Has.loc rfl) Has.cst (i64_in (by omega))) ?_
          refine Chain.op (φ := Is (.int .i64 ((((k + 1 : Nat) : Int) : Int) + (1 : Int)))) (st_is _) (sp_assign (Has.loc rfl)) ?_
          refine Chain.done ⟨by kernel_rfl, fun a28 g W28 hsz28 hdf28 hk hg henv hrest hpsi => ?_⟩
          obtain ⟨e3, -, -, -⟩ := henv
          replace e1 := (hrest 1 rfl).trans e1
          replace D_cn0 := D_cn0.ext hk
          replace D_ci0 := D_ci0.ext hk
          have e3 : sl a28 3 = (.int .i64 ((((k + 1 : Nat) : Int) : Int) + (1 : Int))) := e3
          replace own_b1_2 := own_b1_2.ext hk
          replace kw := kw.trans (.of_ext hk)
          clear hrest hk hg hpsi
          exact tail_nil ⟨by omega, hsz28, hdf28, kw, e1, (e3.trans (congrArg (Value.int .i64) (by omega))), own_b1_2, D_cn0, D_ci0, fun i h hi => by rcases Nat.lt_succ_iff_lt_or_eq.1 hi with h1 | h1; exact hinv i h h1; subst h1; exact hk1⟩
      · -- E: decide ((((k + 1 : Nat) : Int) : Int) < (x.ns.length : Int))
        exfalso
        have hge := of_decide_eq_false hc
        have ha : asc x.ns = true := (asc_iff x.ns).2 fun i hi => hinv i hi (by omega)
        rw [ofE, if_neg hk, if_neg (by rintro (h | h); exact h hl; rw [ha] at h; cases h)] at hof
        exact hof rfl

end Go.Proofs.Ytipdogbeoflkoaa
