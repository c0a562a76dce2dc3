/-
  Rows that grow: a slice of the call's own that is appended to.
-/
import Derived.Test.YtnobijngkpflcaaPureV
import Derived.Laws.AppendOwn
import Derived.Laws.Cover3
namespace Go.Eng

def blks : Option Nat → List Nat
  | none => []
  | some b => [b]
theorem mem_blks {b : Nat} {hd : Option Nat} : b ∈ blks hd ↔ hd = some b := by cases hd <;> simp [blks, eq_comm]

/-- the value v is a row of the call's own (its block, if any, is hd), and reads as ds -/
def Arr (W : World) (lo : Nat) (e : TypeId) (sz : Nat) (X : BSet) (ds : List D) (v : Value) (hd : Option Nat) : Prop :=
  v.ownBlock = hd ∧ ∃ cs, W.ownsRow lo e sz v ds.length cs ∧ RowIs W X sz ds cs

theorem Arr.lt {W : World} {lo : Nat} {e : TypeId} {sz : Nat} {X : BSet} {ds : List D} {v : Value} {hd : Option Nat} (h : Arr W lo e sz X ds v hd) : ∀ b ∈ blks hd, b < W.heap.size := fun b hb => by
  obtain ⟨h1, cs, h2, _⟩ := h
  exact (h2.lt b (h1.trans (mem_blks.1 hb))).2
theorem Arr.ge {W : World} {lo : Nat} {e : TypeId} {sz : Nat} {X : BSet} {ds : List D} {v : Value} {hd : Option Nat} (h : Arr W lo e sz X ds v hd) : ∀ b ∈ blks hd, lo ≤ b := fun b hb => by
  obtain ⟨h1, cs, h2, _⟩ := h
  exact (h2.lt b (h1.trans (mem_blks.1 hb))).1
theorem owns_keeps {W W' : World} {S : Nat → Prop} {lo : Nat} {e : TypeId} {sz n : Nat} {v : Value} {cs : List Value} (h : W.ownsRow lo e sz v n cs) (k : Keeps S W W') (hs : ∀ b, v.ownBlock = some b → S b) : W'.ownsRow lo e sz v n cs := by
  refine ⟨h.1, ?_⟩
  rcases h.2 with h1 | ⟨g, cap, cur, rfl, hb, hg, rest⟩
  · exact .inl h1
  · exact .inr ⟨g, cap, cur, rfl, hb, (k.block g (Array.getElem?_eq_some_iff.1 hg).1 (hs g rfl)).trans hg, rest⟩
theorem Arr.keeps {W W' : World} {S : Nat → Prop} {lo : Nat} {e : TypeId} {sz : Nat} {X : BSet} {ds : List D} {v : Value} {hd : Option Nat} (h : Arr W lo e sz X ds v hd) (k : Keeps S W W') (hs : ∀ b ∈ blks hd, S b) (hX : ∀ b o, X b o → S b) : Arr W' lo e sz X ds v hd := by
  obtain ⟨h1, cs, h2, h3⟩ := h
  exact ⟨h1, cs, owns_keeps h2 k (fun b hb => hs b (mem_blks.2 (h1.symm.trans hb))), h3.move k.size fun b hb hlt => ⟨k.block b hlt (hX b _ hb), by rw [k.block b hlt (hX b _ hb)]; exact hb⟩⟩
theorem Arr.ext {W W' : World} {lo : Nat} {e : TypeId} {sz : Nat} {X : BSet} {ds : List D} {v : Value} {hd : Option Nat} (h : Arr W lo e sz X ds v hd) (k : Ext W W') : Arr W' lo e sz X ds v hd := h.keeps k (fun _ _ => trivial) (fun _ _ _ => trivial)
theorem Arr.mono {W : World} {lo : Nat} {e : TypeId} {sz : Nat} {X X' : BSet} {ds : List D} {v : Value} {hd : Option Nat} (h : Arr W lo e sz X ds v hd) (hX : ∀ b o, X b o → b < W.heap.size → X' b o) : Arr W lo e sz X' ds v hd := by
  obtain ⟨h1, cs, h2, h3⟩ := h
  exact ⟨h1, cs, h2, h3.move (Nat.le_refl _) fun b hb hlt => ⟨rfl, hX b _ hb hlt⟩⟩
theorem arr_nil (W : World) (lo : Nat) (e : TypeId) (sz : Nat) (X : BSet) : Arr W lo e sz X [] (.slice none 0 0) none := ⟨rfl, [], World.ownsRow_nil W lo e sz, rfl⟩
theorem arr_sl {W : World} {lo : Nat} {e : TypeId} {sz : Nat} {X : BSet} {ds : List D} {v : Value} {hd : Option Nat} (h : Arr W lo e sz X ds v hd) : ∃ ad n c, v = .slice ad n c := by
  obtain ⟨_, cs, h2, _⟩ := h
  rcases h2.2 with ⟨rfl, _⟩ | ⟨g, cap, cur, rfl, _⟩
  · exact ⟨_, _, _, rfl⟩
  · exact ⟨_, _, _, rfl⟩
/-- the row as data -/
theorem arr_rd {W : World} {lo : Nat} {e : TypeId} {sz : Nat} {X X' : BSet} {ds : List D} {v : Value} {hd : Option Nat} (h : Arr W lo e sz X ds v hd) (hX : ∀ b o, X b o → b < W.heap.size → X' b o) (hg : ∀ b ∈ blks hd, ∀ o, lo ≤ b → Cln o → X' b o) : Rd W X' (.lst sz ds) v := by
  obtain ⟨h1, cs, h2, h3⟩ := h
  have hr : RowIs W X' sz ds cs := h3.move (Nat.le_refl _) fun b hb hlt => ⟨rfl, hX b _ hb hlt⟩
  rcases h2.2 with ⟨rfl, h0⟩ | ⟨g, cap, cur, rfl, hb, hg', hc1, hc2, hc3, hc4⟩
  · have : ds = [] := List.length_eq_zero_iff.1 h0
    subst this
    exact rd_nil _
  · have hgd : X' g W.heap[g]? := hg g (mem_blks.2 (by rw [← h1]; rfl)) _ hb ⟨_, _, hg'⟩
    refine rd_of_row (o := 0) hc1 hc2 hgd (Array.getElem?_eq_some_iff.1 hg').1 (fun j hj => ?_) hr
    unfold World.cell?
    rw [hg']
    have hl : (cur.toList.take (ds.length * sz))[j]? = some cs[j] := by rw [hc4]; exact List.getElem?_eq_getElem hj
    rw [List.getElem?_take] at hl
    split at hl
    · simpa using hl
    · cases hl
theorem run_app {P : Program} {W : World} {lo : Nat} {t ty e : TypeId} {sz bytes : Nat} (ht : P.underlying t = some (.slice e)) (hinf : inf P e sz bytes) (hsz : 0 < sz)
    {v : Value} {n : Nat} {xs : List Value} (hown : W.ownsRow lo e sz v n xs) {a : Addr} {m c : Nat} {news : List Value} (hl : news.length = m * sz) (hnews : ∀ j u, news[j]? = some u → W.cell? (a.add j) = some u) (h1 : ∀ u ∈ news, u.oneCell' = true)
    (h63 : n + m ≤ maxLen) (hbytes : (n + m) * bytes ≤ 140737488355328) (hlo : lo ≤ W.heap.size) (hm : 0 < m) :
    ∃ v' W', (Builtin.append_ #[t, t] ty #[v, .slice (some a) m c]).run P W = .ok v' W' ∧ W'.ownsRow lo e sz v' (n + m) (xs ++ news) ∧ Keeps (fun k => k ∉ blks v.ownBlock) W W' ∧ (∀ b ∈ blks v'.ownBlock, b ∈ blks v.ownBlock ∨ W.heap.size ≤ b) := by
  obtain ⟨i, z, hi, hz, hs1, hs2, hzs⟩ := hinf
  subst hs1; subst hs2
  have hsmall : n + m ≤ 9223372036854775807 := by simp only [maxLen] at h63; omega
  have hlen : (xs ++ news).length = (n + m) * i.size := by rw [List.length_append, hown.1, hl, Nat.add_mul]
  have grown : ∀ (old : Nat), old < n + m → ∀ (R : Nat → Prop),
      (W.drew.alloc (.cells (xs.toArray ++ news.toArray ++ Builtin.zeroCells z.cells (grownCap W (n + m) old e - (n + m))) e)).ownsRow lo e i.size
        (.slice (some ⟨W.heap.size, 0, none⟩) (n + m) (grownCap W (n + m) old e)) (n + m) (xs ++ news) ∧
      Keeps R W (W.drew.alloc (.cells (xs.toArray ++ news.toArray ++ Builtin.zeroCells z.cells (grownCap W (n + m) old e - (n + m))) e)) := by
    intro old ho R
    have hge := grownCap_ge W (n + m) old e
    have hcm : grownCap W (n + m) old e ≤ maxLen := grownCap_le_maxLen W (n + m) old e h63
    refine ⟨⟨hlen, .inr ⟨W.heap.size, _, _, rfl, hlo, heap_alloc_new W.drew _, hge, hcm, ?_, ?_⟩⟩, .of_ext (ext_drew_alloc W _)⟩
    · simp only [Array.size_append, List.size_toArray, size_zeroCells, hzs, hown.1, hl, ← Nat.add_mul]
      congr 1
      omega
    · simp only [Array.toList_append, List.append_assoc]
      rw [← List.append_assoc, ← hlen]
      exact List.take_left
  rcases hown.2 with ⟨rfl, rfl⟩ | ⟨g, cap, cur, rfl, hbg, hg, hnc, hcm, hcs, htake⟩
  · have hx : xs = [] := List.eq_nil_of_length_eq_zero (by simpa using hown.1)
    subst hx
    have hr := run_append_nil (P := P) W t ty e i z ht hi hz a m c news hl hnews (by omega) (by omega) (by have hb := hbytes; simp only [Nat.zero_add] at hb; omega)
    have hgr := grown 0 (by omega) (fun k => k ∉ blks (Value.ownBlock (.slice none 0 0)))
    simp only [Nat.zero_add, List.nil_append, Array.empty_append] at hgr ⊢
    exact ⟨_, _, hr, hgr.1, hgr.2, fun b hb => by simp [Value.ownBlock, blks] at hb; exact .inr (by omega)⟩
  · by_cases hroom : n + m ≤ cap
    · have hfit : n * i.size + news.length ≤ cur.size := by rw [hl, hcs, ← Nat.add_mul]; exact Nat.mul_le_mul_right _ hroom
      have hr := run_append_room (P := P) W t ty e i ht hi g n cap cur hg a m c news hl hnews h1 hroom hfit
      refine ⟨_, _, hr, ⟨hlen, .inr ⟨g, cap, _, rfl, hbg, setRow_heap W g cur _ e _ hg, hroom, hcm, ?_, ?_⟩⟩, ⟨rfl, rfl, rfl, by simp, fun k _ hk => setRow_other W g k _ (fun e => hk (by simp [Value.ownBlock, blks, e]))⟩, fun b hb => .inl hb⟩
      · simp only [List.size_toArray, List.length_append, List.length_take, List.length_drop, Array.length_toList]
        omega
      · rw [htake, ← hlen]
        exact List.take_left
    · have holds : ∀ j u, xs[j]? = some u → W.cell? ((⟨g, 0, none⟩ : Addr).add j) = some u := hown.cells (g := g) rfl
      have hr := run_append_grow (P := P) W t ty e i z ht hi hz ⟨g, 0, none⟩ n cap xs hown.1 holds a m c news hl hnews (by omega) (by omega) (growslice_fits (by omega) hbytes)
      have hgr := grown cap (by omega) (fun k => k ∉ blks (Value.ownBlock (.slice (some ⟨g, 0, none⟩) n cap)))
      exact ⟨_, _, hr, hgr.1, hgr.2, fun b hb => by simp [Value.ownBlock, blks] at hb; exact .inr (by omega)⟩

section
variable {P : Program} {ops : Array Oper} {w0 : World} {a0 : Act} {Γ : Ctx}
variable {d : Option Tmp} {ty : TypeId} {pos : String} {af : Array Edge} {gd : Option (Nat × Bool)}
variable {K : List Oper → Ctx → (World → Prop) → List Bool → Prop} {l : List Oper} {Ψ Ψ' : World → Prop} {ms : List Bool} {fl : Bool}

def IsArr (w0 : World) (lo : Nat) (e : TypeId) (sz : Nat) (X : BSet) (ds : List D) (hd : Option Nat) : Fact := fun _ u W => ∃ hd', Arr W lo e sz (fun b o => X b o ∧ b ∉ blks hd') ds u hd' ∧ ∀ b ∈ blks hd', b ∈ blks hd ∨ w0.heap.size ≤ b
theorem st_arr {lo : Nat} {e : TypeId} {sz : Nat} {X : BSet} {ds : List D} {hd : Option Nat} : Stable All (IsArr w0 lo e sz X ds hd) :=
  ⟨fun _ _ _ _ k ⟨hd', h1, h2⟩ => ⟨hd', h1.ext k, h2⟩, fun _ _ _ _ _ _ h => h⟩
theorem Chain.appA {x y : Operand} {T E : TypeId} {lo sz bytes : Nat} {ds es : List D} {X : BSet} {hd : Option Nat} {v : Value} (hT : P.underlying T = some (.slice E)) (hi : inf P E sz bytes) (hsz : 0 < sz)
    (hx : Has (fun k => k ∉ blks hd) w0 a0 Γ x (Is v)) (hy : Has (fun k => k ∉ blks hd) w0 a0 Γ y (IsD X (.lst sz es))) (hX : ∀ b o, X b o → b ∉ blks hd) (hne : 0 < es.length)
    (h63 : ds.length + es.length ≤ maxLen) (hb : (ds.length + es.length) * bytes ≤ 140737488355328) (hlo : lo ≤ w0.heap.size)
    (h : Chain P ops (fun k => k ∉ blks hd) w0 a0 K true l ((d, IsArr w0 lo E sz X (ds ++ es) hd) :: Γ) Tr (true :: ms)) :
    Chain P ops (fun k => k ∉ blks hd) w0 a0 K false (⟨d, .call ⟨.builtin .append, #[x, y], #[T, T]⟩, ty, pos, af, none⟩ :: l) Γ (fun W => Arr W lo E sz X ds v hd) ms := by
  refine .last _ Tr st_arr st_tr (fun a g W hk hg he hψ => ?_) h
  have hxe : a.eval x = v := hx.of_env hk hg he (by simp [Op.operands, Call.operands])
  have hyd := hy.of_env hk hg he (by simp [Op.operands, Call.operands])
  have hw : Region.wanted (⟨d, .call ⟨.builtin .append, #[x, y], #[T, T]⟩, ty, pos, af, none⟩ : Oper) (yielded ops a.tmps) = true := rfl
  unfold ObRun; rw [if_pos hw]
  unfold OpRuns
  obtain ⟨hv, cs, hown, hrow⟩ := hψ
  rcases rd_row hyd with ⟨rfl, _⟩ | ⟨b, o, cap, cs2, ey, hbx, hlt, hc, hr⟩
  · simp at hne
  obtain ⟨v', W', hrun, hown', hk', hfr⟩ := run_app (P := P) (ty := ty) (c := cap) hT hi hsz hown hr.length (cells_addr hc) (fun u hu => by rw [oneC_eq]; exact hr.one u hu) h63 hb (Nat.le_trans hlo hk.size) hne
  have hop : (execOp a.eval ⟨d, .call ⟨.builtin .append, #[x, y], #[T, T]⟩, ty, pos, af, none⟩).run P W = .ok (.value v') W' := by
    simp [execOp, resolve, invoke, builtin, hxe, ey, hrun]
  rw [hop]
  rw [hv] at hk' hfr
  have hnb : ∀ b o, X b o → b < W.heap.size → b ∉ blks v'.ownBlock := fun b o hb hlt hm => (hfr b hm).elim (hX b o hb) (by omega)
  refine ⟨hk', ⟨v'.ownBlock, ⟨rfl, cs ++ cs2, by rw [List.length_append]; exact hown', RowIs.append ?_ ?_⟩, fun b hb => (hfr b hb).imp id fun h => Nat.le_trans hk.size h⟩, trivial⟩
  · exact hrow.move hk'.size fun b hb hlt => ⟨hk'.block b hlt (hX b _ hb), by rw [hk'.block b hlt (hX b _ hb)]; exact hb, hnb b _ hb hlt⟩
  · exact hr.move hk'.size fun b hb hlt => ⟨hk'.block b hlt (hX b _ hb.1), by rw [hk'.block b hlt (hX b _ hb.1)]; exact hb.1, hnb b _ hb.1 hlt⟩

theorem tail_assign {Q : Exit → Act → World → Prop} {r : List Oper} {a : Act} {W : World} {x : Operand} {v : Value} {t : Nat} (hx : a.eval x = v) (ht : t < a.tmps.size)
    (h : ∀ a', a'.tmps.size = a.tmps.size → a'.defers = a.defers → sl a' t = v → (∀ u, u ≠ t → sl a' u = sl a u) → runTail P ops Q r a' W) :
    runTail P ops Q (⟨some t, .assign x, ty, pos, af, none⟩ :: r) a W := by
  have hw : Region.wanted (⟨some t, .assign x, ty, pos, af, none⟩ : Oper) (yielded ops a.tmps) = true := rfl
  unfold runTail ObRun; rw [if_pos hw]
  unfold OpRuns
  have : (execOp a.eval ⟨some t, .assign x, ty, pos, af, none⟩).run P W = .ok (.value v) W := by simp [execOp, hx]
  rw [this]
  exact h _ put_size put_defers (sl_put_same ht) (fun u hu => sl_put_ne (by simpa using Ne.symm hu))
end

/-! ### sets of blocks with rows -/
theorem in_app {L M : List Nat} {p : Nat → Prop} (h1 : ∀ b ∈ L, p b) (h2 : ∀ b ∈ M, p b) : ∀ b ∈ L ++ M, p b := fun b hb => (List.mem_append.1 hb).elim (h1 b) (h2 b)
theorem rep_nil {q : Nat → Prop} : ∀ b ∈ ([] : List Nat), b ∈ ([] : List Nat) ∨ q b := fun _ h => .inl h
theorem rep_cons {q : Nat → Prop} {x : Nat} {M M' : List Nat} (h : ∀ b ∈ M', b ∈ M ∨ q b) : ∀ b ∈ x :: M', b ∈ x :: M ∨ q b := fun b hb => by
  rcases List.mem_cons.1 hb with rfl | hb
  · exact .inl List.mem_cons_self
  · exact (h b hb).imp (List.mem_cons_of_mem _) id
theorem rep_app {q : Nat → Prop} {L L' M M' : List Nat} (h1 : ∀ b ∈ L', b ∈ L ∨ q b) (h : ∀ b ∈ M', b ∈ M ∨ q b) : ∀ b ∈ L' ++ M', b ∈ L ++ M ∨ q b := fun b hb => by
  rcases List.mem_append.1 hb with hb | hb
  · exact (h1 b hb).imp (List.mem_append_left _) id
  · exact (h b hb).imp (List.mem_append_right _) id
theorem rep_refl {q : Nat → Prop} {L : List Nat} : ∀ b ∈ L, b ∈ L ∨ q b := fun _ h => .inl h
theorem rep_q {q : Nat → Prop} {L L' : List Nat} (h : ∀ b ∈ L', q b) : ∀ b ∈ L', b ∈ L ∨ q b := fun b hb => .inr (h b hb)
theorem sub_nb {w : World} {S : BSet} {M : List Nat} {hd : Option Nat} (hM : ∀ b ∈ blks hd, b ∈ M) : ∀ b o, SA w S M b o → b ∉ blks hd := fun b _ h hh => h.2.2 (hM b hh)
theorem sub_nbF {w : World} {M : List Nat} {hd : Option Nat} (hM : ∀ b ∈ blks hd, b ∈ M) : ∀ b o, SF w M b o → b ∉ blks hd := fun b _ h hh => h.2.2 (hM b hh)
theorem fr_sf {S0 : Nat → Prop} {w w0 : World} {M : List Nat} (kw : Keeps S0 w w0) (hM : ∀ b ∈ M, b < w0.heap.size) : ∀ b o, Fr w0 b o → SF w M b o := fun b _ h => ⟨Nat.le_trans kw.size h.1, h.2, fun hm => by have := hM b hm; have := h.1; omega⟩
theorem fr_sa {S0 : Nat → Prop} {S : BSet} {w w0 : World} {M : List Nat} (kw : Keeps S0 w w0) (hM : ∀ b ∈ M, b < w0.heap.size) : ∀ b o, Fr w0 b o → SA w S M b o := fun b o h => by
  have h' := fr_sf kw hM b o h
  exact ⟨fun hlt => absurd h'.1 (by omega), fun _ => h'.2.1, h'.2.2⟩
theorem keeps_app {S0 : Nat → Prop} {w W W' : World} {L : List Nat} (h : Keeps S0 w W) (k : Keeps (fun x => x ∉ L) W W') (hb : ∀ b ∈ L, w.heap.size ≤ b) : Keeps S0 w W' :=
  ⟨k.os.trans h.os, k.tape.trans h.tape, k.output.trans h.output, Nat.le_trans h.size k.size, fun i hi hs => by
    rw [k.block i (Nat.lt_of_lt_of_le hi h.size) (fun hm => by have := hb i hm; omega)]; exact h.block i hi hs⟩
theorem nb_new {W : World} {b : Nat} {hd hd' : Option Nat} (h : b ∉ blks hd) (hlt : b < W.heap.size) (hh : ∀ x ∈ blks hd', x ∈ blks hd ∨ W.heap.size ≤ x) : b ∉ blks hd' := fun hm => (hh b hm).elim h (by omega)
theorem dj_new {W : World} {hd hd' hd2 : Option Nat} (h : ∀ b ∈ blks hd2, b ∉ blks hd) (hlt : ∀ b ∈ blks hd2, b < W.heap.size) (hh : ∀ x ∈ blks hd', x ∈ blks hd ∨ W.heap.size ≤ x) : ∀ b ∈ blks hd2, b ∉ blks hd' := fun b hb => nb_new (h b hb) (hlt b hb) hh
theorem nb_lt {N b : Nat} {hd : Option Nat} (hlt : ∀ x ∈ blks hd, x < N) (hb : N ≤ b) : b ∉ blks hd := fun hm => by have := hlt b hm; omega
theorem dj_symm {hd hd2 : Option Nat} (h : ∀ b ∈ blks hd2, b ∉ blks hd) : ∀ b ∈ blks hd, b ∉ blks hd2 := fun b hb h2 => h b h2 hb
section
variable {w W W' : World} {S : BSet} {M M' : List Nat} {hd hd2 hd' : Option Nat} {d : D} {v : Value} {lo : Nat} {e : TypeId} {sz : Nat} {ds : List D}
/-- a datum behind an append; M': the boxes and rows of now -/
theorem sf_app (h : Rd W (SF w M) d v) (k : Keeps (fun x => x ∉ blks hd) W W') (hM : ∀ b ∈ blks hd, b ∈ M) (hr : ∀ b ∈ M', b ∈ M ∨ W.heap.size ≤ b) : Rd W' (SF w M') d v :=
  (h.mono fun b o hb hlt => ⟨⟨hb.1, hb.2.1, fun hm => (hr b hm).elim hb.2.2 (by omega)⟩, fun hh => hb.2.2 (hM b hh)⟩ : Rd W (fun b o => SF w M' b o ∧ b ∉ blks hd) d v).keeps k (fun b o hb => hb.2) |>.mono fun b o hb _ => hb.1
theorem sa_app (h : Rd W (SA w S M) d v) (k : Keeps (fun x => x ∉ blks hd) W W') (hM : ∀ b ∈ blks hd, b ∈ M) (hr : ∀ b ∈ M', b ∈ M ∨ W.heap.size ≤ b) : Rd W' (SA w S M') d v :=
  (h.mono fun b o hb hlt => ⟨⟨hb.1, hb.2.1, fun hm => (hr b hm).elim hb.2.2 (by omega)⟩, fun hh => hb.2.2 (hM b hh)⟩ : Rd W (fun b o => SA w S M' b o ∧ b ∉ blks hd) d v).keeps k (fun b o hb => hb.2) |>.mono fun b o hb _ => hb.1
theorem arrF_app (h : Arr W lo e sz (SF w M) ds v hd2) (k : Keeps (fun x => x ∉ blks hd) W W') (hM : ∀ b ∈ blks hd, b ∈ M) (hr : ∀ b ∈ M', b ∈ M ∨ W.heap.size ≤ b) (hd2' : ∀ b ∈ blks hd2, b ∉ blks hd) : Arr W' lo e sz (SF w M') ds v hd2 :=
  (h.mono fun b o hb hlt => ⟨⟨hb.1, hb.2.1, fun hm => (hr b hm).elim hb.2.2 (by omega)⟩, fun hh => hb.2.2 (hM b hh)⟩ : Arr W lo e sz (fun b o => SF w M' b o ∧ b ∉ blks hd) ds v hd2).keeps k hd2' (fun b o hb => hb.2) |>.mono fun b o hb _ => hb.1
theorem arrA_app (h : Arr W lo e sz (SA w S M) ds v hd2) (k : Keeps (fun x => x ∉ blks hd) W W') (hM : ∀ b ∈ blks hd, b ∈ M) (hr : ∀ b ∈ M', b ∈ M ∨ W.heap.size ≤ b) (hd2' : ∀ b ∈ blks hd2, b ∉ blks hd) : Arr W' lo e sz (SA w S M') ds v hd2 :=
  (h.mono fun b o hb hlt => ⟨⟨hb.1, hb.2.1, fun hm => (hr b hm).elim hb.2.2 (by omega)⟩, fun hh => hb.2.2 (hM b hh)⟩ : Arr W lo e sz (fun b o => SA w S M' b o ∧ b ∉ blks hd) ds v hd2).keeps k hd2' (fun b o hb => hb.2) |>.mono fun b o hb _ => hb.1
/-- the row itself behind its append -/
theorem arrF_new (h : Arr W' lo e sz (fun b o => SF w M b o ∧ b ∉ blks hd') ds v hd') (hr : ∀ b ∈ M', b ∈ M ∨ b ∈ blks hd') : Arr W' lo e sz (SF w M') ds v hd' :=
  h.mono fun b o hb _ => ⟨hb.1.1, hb.1.2.1, fun hm => (hr b hm).elim hb.1.2.2 hb.2⟩
theorem arrA_new (h : Arr W' lo e sz (fun b o => SA w S M b o ∧ b ∉ blks hd') ds v hd') (hr : ∀ b ∈ M', b ∈ M ∨ b ∈ blks hd') : Arr W' lo e sz (SA w S M') ds v hd' :=
  h.mono fun b o hb _ => ⟨hb.1.1, hb.1.2.1, fun hm => (hr b hm).elim hb.1.2.2 hb.2⟩
theorem arrF_more (h : Arr W lo e sz (SF w M) ds v hd) (k : Ext W W') (news : List Nat) (hn : ∀ b ∈ news, W.heap.size ≤ b) : Arr W' lo e sz (SF w (news ++ M)) ds v hd :=
  (h.mono fun _ _ hb hlt => ⟨hb.1, hb.2.1, not_more hb.2.2 hlt hn⟩ : Arr W lo e sz (SF w (news ++ M)) ds v hd).ext k
theorem arrA_more (h : Arr W lo e sz (SA w S M) ds v hd) (k : Ext W W') (news : List Nat) (hn : ∀ b ∈ news, W.heap.size ≤ b) : Arr W' lo e sz (SA w S (news ++ M)) ds v hd :=
  (h.mono fun _ _ hb hlt => ⟨hb.1, hb.2.1, not_more hb.2.2 hlt hn⟩ : Arr W lo e sz (SA w S (news ++ M)) ds v hd).ext k
theorem arrF_store {b : Nat} (h : Arr W lo e sz (SF w M) ds v hd) (k : Keeps (fun x => x ≠ b) W W') (hb : b ∈ M) (hn : b ∉ blks hd) : Arr W' lo e sz (SF w M) ds v hd :=
  h.keeps k (fun _ hx e => hn (e ▸ hx)) fun x _ hx e => hx.2.2 (e ▸ hb)
theorem arrA_store {b : Nat} (h : Arr W lo e sz (SA w S M) ds v hd) (k : Keeps (fun x => x ≠ b) W W') (hb : b ∈ M) (hn : b ∉ blks hd) : Arr W' lo e sz (SA w S M) ds v hd :=
  h.keeps k (fun _ hx e => hn (e ▸ hx)) fun x _ hx e => hx.2.2 (e ▸ hb)
theorem arrF_less (h : Arr W lo e sz (SF w M) ds v hd) (hm : ∀ b ∈ M', b ∈ M) : Arr W lo e sz (SF w M') ds v hd := h.mono fun b _ hb _ => ⟨hb.1, hb.2.1, fun h' => hb.2.2 (hm b h')⟩
theorem arrA_less (h : Arr W lo e sz (SA w S M) ds v hd) (hm : ∀ b ∈ M', b ∈ M) : Arr W lo e sz (SA w S M') ds v hd := h.mono fun b _ hb _ => ⟨hb.1, hb.2.1, fun h' => hb.2.2 (hm b h')⟩
/-- the row is data from now on -/
theorem arrF_rd (h : Arr W w.heap.size e sz (SF w M) ds v hd) (hm : ∀ b ∈ M', b ∈ M) (hn : ∀ b ∈ blks hd, b ∉ M') : Rd W (SF w M') (.lst sz ds) v :=
  arr_rd h (fun b _ hb _ => ⟨hb.1, hb.2.1, fun h' => hb.2.2 (hm b h')⟩) fun b hb _ hlo hc => ⟨hlo, hc, hn b hb⟩
theorem arrA_rd (h : Arr W w.heap.size e sz (SA w S M) ds v hd) (hm : ∀ b ∈ M', b ∈ M) (hn : ∀ b ∈ blks hd, b ∉ M') : Rd W (SA w S M') (.lst sz ds) v :=
  arr_rd h (fun b _ hb _ => ⟨hb.1, hb.2.1, fun h' => hb.2.2 (hm b h')⟩) fun b hb _ hlo hc => ⟨fun hlt => by omega, fun _ => hc, hn b hb⟩
end
theorem own_app {W W' : World} {b : Nat} {hd : Option Nat} {cs : List Value} {T : TypeId} (h : Own W b cs T) (k : Keeps (fun x => x ∉ blks hd) W W') (hn : b ∉ blks hd) : Own W' b cs T := h.keeps k hn
theorem hd_nil {p : Nat → Prop} : ∀ b ∈ blks none, p b := fun _ h => by cases h

section
variable {P : Program} {ops : Array Oper} {S : Nat → Prop} {w0 : World} {a0 : Act} {Γ : Ctx}
variable {d : Option Tmp} {ty : TypeId} {pos : String} {af : Array Edge} {gd : Option (Nat × Bool)}
theorem Has.sup {x : Operand} {X X' : BSet} {dd : D} (h : Has S w0 a0 Γ x (IsD X dd)) (hX : ∀ b o, X b o → X' b o) : Has S w0 a0 Γ x (IsD X' dd) := h.imp fun _ _ _ _ _ hu => Rd.mono hu fun b o hb _ => ⟨hX b o hb.1, hb.2⟩
theorem sf_in_sa {w : World} {S : BSet} {M : List Nat} : ∀ b o, SF w M b o → SA w S M b o := fun b _ hb => ⟨fun hlt => absurd hb.1 (by omega), fun _ => hb.2.1, hb.2.2⟩
theorem Has.str {x : Operand} {s : ByteArray} {X : BSet} (h : Has S w0 a0 Γ x (Is (.string s))) (hb : s.size ≤ maxLen) : Has S w0 a0 Γ x (IsD X (.str s)) := h.imp fun _ u _ _ _ hu => ⟨[.string s], ⟨rfl, hb⟩, hu⟩
theorem Has.emp {x : Operand} {E : TypeId} {X : BSet} {sz : Nat} (h : Has S w0 a0 Γ x (IsE E)) : Has S w0 a0 Γ x (IsD X (.lst sz [])) := h.imp fun _ u _ _ _ hu => by
  rcases hu with rfl | ⟨b, rfl, _⟩
  · exact ⟨[.slice none 0 0], by simp only [RdC]; exact ⟨none, 0, rfl, by simp, by simp, .inl trivial⟩, rfl⟩
  · exact ⟨[.slice (some ⟨b, 0, none⟩) 0 0], by simp only [RdC]; exact ⟨_, 0, rfl, by simp, by simp, .inl trivial⟩, rfl⟩
theorem sp_slNil {x y : Operand} {T T' E : TypeId} {ad : Option Addr} {n c : Nat} (hT : P.underlying T = some (.slice E)) (hx : Has S w0 a0 Γ x (Is (.slice ad n c))) (hy : Has S w0 a0 Γ y (Is (.slice none 0 0))) :
    Spec P ops S w0 a0 Γ ⟨d, .binOp .eql T x y T', ty, pos, af, gd⟩ (Is (.bool ad.isNone)) := sp_val fun a g W hk hg he => by
  have e1 : a.eval x = .slice ad n c := hx.of_env hk hg he (by simp [Op.operands])
  have e2 : a.eval y = .slice none 0 0 := hy.of_env hk hg he (by simp [Op.operands])
  simp [execOp, e1, e2, binOp, eqGuard, run_equal_slice_nil W T E ad n c hT]
theorem rd_none {W : World} {X : BSet} {sz n c : Nat} {ds : List D} {ad : Option Addr} (h : Rd W X (.lst sz ds) (.slice ad n c)) (hn : ad.isNone = true) : ds = [] := by
  obtain ⟨cs, h1, h2⟩ := h
  simp only [RdC] at h1
  obtain ⟨a2, cap, rfl, _, _, h4⟩ := h1
  have e : Value.slice ad n c = .slice a2 ds.length cap := h2
  injection e with e1
  subst e1
  rcases h4 with h | ⟨b, o, rfl, _⟩
  · exact h
  · cases hn
end
theorem rd_strAt {W : World} {X : BSet} {ns : List ByteArray} {v : Value} (h : Rd W X (strsD ns) v) (k : Nat) (hk : k < ns.length) : (ns[k]'hk).size ≤ maxLen := by
  rcases rd_row (show Rd W X (.lst 1 (ns.map D.str)) v from h) with ⟨h0, _⟩ | ⟨b, o, cap, cs, _, _, _, hc, hr⟩
  · simp at h0; subst h0; simp at hk
  · have hl := rdl_of_row hc hr
    obtain ⟨cs, _, _, h3⟩ := hl.get k (by simpa using hk)
    simp only [List.getElem_map, RdC] at h3
    exact h3.2
theorem width_V (x : V) : width x.d = 5 := by rw [V.d_eq]; rfl
theorem ls_nil {M : List Nat} : ∀ b ∈ ([] : List Nat), b ∈ M := fun _ h => by cases h
theorem ls_keep {x : Nat} {M M' : List Nat} (h : ∀ b ∈ M', b ∈ M) : ∀ b ∈ x :: M', b ∈ x :: M := fun b hb => by
  rcases List.mem_cons.1 hb with rfl | hb
  · exact List.mem_cons_self
  · exact List.mem_cons_of_mem _ (h b hb)
theorem ls_skip {x : Nat} {M M' : List Nat} (h : ∀ b ∈ M', b ∈ M) : ∀ b ∈ M', b ∈ x :: M := fun b hb => List.mem_cons_of_mem _ (h b hb)
theorem ls_keepA {L M M' : List Nat} (h : ∀ b ∈ M', b ∈ M) : ∀ b ∈ L ++ M', b ∈ L ++ M := fun b hb => by
  rcases List.mem_append.1 hb with hb | hb
  · exact List.mem_append_left _ hb
  · exact List.mem_append_right _ (h b hb)
theorem ls_skipA {L M M' : List Nat} (h : ∀ b ∈ M', b ∈ M) : ∀ b ∈ M', b ∈ L ++ M := fun b hb => List.mem_append_right _ (h b hb)
theorem nin_nil {L : List Nat} : ∀ b ∈ L, b ∉ ([] : List Nat) := fun _ _ h => by cases h
theorem nin_cons {x : Nat} {L M : List Nat} (hx : x ∉ L) (h : ∀ b ∈ L, b ∉ M) : ∀ b ∈ L, b ∉ x :: M := fun b hb hm => by
  rcases List.mem_cons.1 hm with rfl | hm
  · exact hx hb
  · exact h b hb hm
theorem nin_app {L L2 M : List Nat} (hd : ∀ b ∈ L, b ∉ L2) (h : ∀ b ∈ L, b ∉ M) : ∀ b ∈ L, b ∉ L2 ++ M := fun b hb hm => by
  rcases List.mem_append.1 hm with hm | hm
  · exact hd b hb hm
  · exact h b hb hm
theorem nb_none {b : Nat} : b ∉ blks none := fun h => by cases h
theorem sub_frnb {w0 : World} {hd : Option Nat} (h : ∀ b ∈ blks hd, b < w0.heap.size) : ∀ b o, Fr w0 b o → b ∉ blks hd := fun b _ hb hm => by have := h b hm; have := hb.1; omega

/-! ### struct literals with parts that are data -/
theorem rdf_set {W : World} {X : BSet} : ∀ (ds : List D) (cs : List Value) (i : Nat) (d : D) (c : List Value), RdF W X ds cs → (hi : i < ds.length) → RdC W X d c → width d = width ds[i] →
    RdF W X (ds.set i d) (cs.take (widths (ds.take i)) ++ c ++ cs.drop (widths (ds.take i) + c.length)) ∧ widths (ds.take i) + c.length ≤ cs.length
  | [], _, i, _, _, _, hi, _, _ => by simp at hi
  | x :: ds, cs, 0, d, c, h, _, hc, hw => by
    simp only [RdF] at h
    obtain ⟨c1, c2, rfl, h1, h2⟩ := h
    have e1 := rdc_width x c1 h1
    have e2 := rdc_width d c hc
    have e3 : c.length = c1.length := by rw [e1, e2]; simpa using hw
    simp only [List.take_zero, widths, List.set_cons_zero, RdF, Nat.zero_add, List.nil_append]
    refine ⟨⟨c, c2, ?_, hc, h2⟩, by simp; omega⟩
    rw [e3, List.drop_left]
  | x :: ds, cs, i + 1, d, c, h, hi, hc, hw => by
    simp only [RdF] at h
    obtain ⟨c1, c2, rfl, h1, h2⟩ := h
    have e1 := rdc_width x c1 h1
    obtain ⟨r1, r2⟩ := rdf_set ds c2 i d c h2 (by simpa using hi) hc (by simpa using hw)
    simp only [List.take_succ_cons, widths, List.set_cons_succ, RdF]
    refine ⟨⟨c1, _, ?_, h1, r1⟩, by simp; omega⟩
    rw [← e1, List.take_length_add_append, show c1.length + widths (ds.take i) + c.length = c1.length + (widths (ds.take i) + c.length) by omega, List.drop_length_add_append]
    simp
def plOf : Nat → List D → List (Nat × Nat)
  | _, [] => []
  | off, x :: xs => (off, width x) :: plOf (off + width x) xs
theorem plOf_get : ∀ (ds : List D) (off i : Nat) (hi : i < ds.length), (plOf off ds)[i]? = some (off + widths (ds.take i), width ds[i])
  | [], _, i, hi => by simp at hi
  | x :: ds, off, 0, _ => by simp [plOf, widths]
  | x :: ds, off, i + 1, hi => by
    simp only [plOf, List.getElem?_cons_succ, List.take_succ_cons, widths, List.getElem_cons_succ]
    rw [plOf_get ds _ i (by simpa using hi)]
    simp; omega
theorem plOf_set : ∀ (ds : List D) (off i : Nat) (d : D) (hi : i < ds.length), width d = width ds[i] → plOf off (ds.set i d) = plOf off ds
  | [], _, i, _, hi, _ => by simp at hi
  | x :: ds, off, 0, d, _, h => by
    have h : width d = width x := by simpa using h
    simp [plOf, h]
  | x :: ds, off, i + 1, d, hi, h => by simp [plOf, plOf_set ds _ i d (by simpa using hi) (by simpa using h)]
def over : List D → List (Nat × D) → List D
  | ds, [] => ds
  | ds, (i, d) :: es => over (ds.set i d) es
def fits : List D → List (Nat × D) → Prop
  | _, [] => True
  | ds, (i, d) :: es => (∃ h : i < ds.length, width d = width ds[i]) ∧ fits (ds.set i d) es
def Pairs (W : World) (X : BSet) : List (Nat × D) → List (Nat × Value) → Prop
  | [], [] => True
  | (i, d) :: es, (j, v) :: vs => j = i ∧ Rd W X d v ∧ Pairs W X es vs
  | _, _ => False
theorem fill_struct {W : World} {X : BSet} : ∀ (es : List (Nat × D)) (vs : List (Nat × Value)) (ds : List D) (cells : List Value), RdF W X ds cells → fits ds es → Pairs W X es vs →
    ∃ cs, Instr.fill (fun i => (plOf 0 ds).toArray[i]?) cells.toArray vs = some cs.toArray ∧ RdF W X (over ds es) cs
  | [], [], ds, cells, h, _, _ => ⟨cells, rfl, h⟩
  | [], _ :: _, _, _, _, _, h => h.elim
  | _ :: _, [], _, _, _, _, h => h.elim
  | (i, d) :: es, (j, v) :: vs, ds, cells, h, ⟨⟨hi, hw⟩, hf⟩, ⟨hji, hv, hp⟩ => by
    subst hji
    obtain ⟨c, hc, rfl⟩ := hv
    have hcells : (asm d c).cells = c.toArray := cells_asm hc
    obtain ⟨r1, r2⟩ := rdf_set ds cells j d c h hi hc hw
    obtain ⟨cs, q1, q2⟩ := fill_struct es vs (ds.set j d) _ r1 hf hp
    refine ⟨cs, ?_, q2⟩
    rw [plOf_set ds 0 j d hi hw] at q1
    rw [← q1]
    have hpl : (plOf 0 ds).toArray[j]? = some (widths (ds.take j), width ds[j]) := by simpa using plOf_get ds 0 j hi
    have hcl := rdc_width d c hc
    have hfold := fold_arr c.toArray cells.toArray (widths (ds.take j)) (by simpa using r2)
    simp only [Instr.fill, hpl, hcells]
    rw [if_neg (by simp; omega)]
    congr 1
theorem zV (W : World) (X : BSet) : RdF W X [.int .u8 0, .int .i64 0, .str ⟨#[]⟩, strsD [], valsD []] [.int .u8 0, .int .i64 0, .string ⟨#[]⟩, .slice none 0 0, .slice none 0 0] := by
  refine ⟨[_], _, rfl, rfl, [_], _, rfl, rfl, [_], _, rfl, ⟨rfl, by decide⟩, [_], _, rfl, ?_, [_], _, rfl, ?_, rfl⟩
  · simp only [strsD, RdC]; exact ⟨none, 0, rfl, by simp, by simp, .inl (by simp)⟩
  · simp only [valsD, RdC]; exact ⟨none, 0, rfl, by simp, by simp, .inl (by simp)⟩
section
variable {P : Program} {ops : Array Oper} {S : Nat → Prop} {w0 : World} {a0 : Act} {Γ : Ctx}
variable {d : Option Tmp} {ty : TypeId} {pos : String} {af : Array Edge} {gd : Option (Nat × Bool)}
theorem Has.int {x : Operand} {k : IntKind} {n : Int} {X : BSet} (h : Has S w0 a0 Γ x (Is (.int k n))) : Has S w0 a0 Γ x (IsD X (.int k n)) := h.imp fun _ _ _ _ _ hu => ⟨[.int k n], rfl, hu⟩
def PartsF (S : Nat → Prop) (w0 : World) (a0 : Act) (Γ : Ctx) (X : BSet) : List (Nat × Operand) → List (Nat × D) → Prop
  | [], [] => True
  | (i, x) :: ps, (j, d) :: es => i = j ∧ Has S w0 a0 Γ x (IsD X d) ∧ PartsF S w0 a0 Γ X ps es
  | _, _ => False
theorem PartsF.out {o : Oper} {a : Act} {g : Gh} {W : World} {X : BSet} (hk : Keeps S w0 W) (hg : GOk w0 W g) (he : Env Γ a0 a g W (o.looksAt ops)) : ∀ (ps : List (Nat × Operand)) (es : List (Nat × D)), PartsF S w0 a0 Γ X ps es → (∀ p ∈ ps, p.2 ∈ o.op.operands) →
    Pairs W (fun b o => X b o ∧ Out g b) es (ps.map (fun p => (p.1, a.eval p.2)))
  | [], [], _, _ => trivial
  | [], _ :: _, h, _ => h.elim
  | _ :: _, [], h, _ => h.elim
  | (i, x) :: ps, (j, d) :: es, ⟨h1, h2, h3⟩, hm => ⟨h1, h2.of_env hk hg he (hm (i, x) List.mem_cons_self), PartsF.out hk hg he ps es h3 fun p hp => hm p (List.mem_cons_of_mem _ hp)⟩
theorem sp_buildD {T : TypeId} {parts : Array (Nat × Operand)} {es : List (Nat × D)} {zd : List D} {r : D} {fs : Array Field} {zs : Array Value} {X : BSet} (hT : P.underlying T = some (.struct fs)) (hz : zeroOf P T = some (.agg zs)) {pls : List (Nat × Nat)} (hpl : (fs.toList.all fun f => (szOf P f.type).isSome) = true ∧ placesOf P fs.toList = pls)
    (hp : PartsF S w0 a0 Γ X parts.toList es) (hzd : ∀ W X, RdF W X zd zs.toList) (hpz : pls = plOf 0 zd) (hf : fits zd es) (hr : .agg (over zd es) = r) :
    Spec P ops S w0 a0 Γ ⟨d, .build T parts, ty, pos, af, gd⟩ (IsD X r) := fun a g W hk hg he => by
  have hm := hp.out hk hg he _ _ (fun p hp => by simp [Op.operands]; exact ⟨p.1, by simpa using hp⟩)
  obtain ⟨hok, rfl⟩ := hpl
  obtain ⟨cs, q1, q2⟩ := fill_struct es _ zd zs.toList (hzd W _) hf hm
  rw [← hpz] at q1
  have hr' := run_build (P := P) (vs := (parts.toList.map fun p => (p.1, a.eval p.2)).toArray) (zs := zs) (cells := cs.toArray) hT hz hok (by simpa using q1) W
  have e' : (parts.map fun x => (x.1, a.eval x.2)) = (parts.toList.map fun p => (p.1, a.eval p.2)).toArray := by apply Array.ext'; simp
  have hrun : (execOp a.eval ⟨d, .build T parts, ty, pos, af, gd⟩).run P W = .ok (.value (.agg cs.toArray)) W := by
    simp only [execOp, Sem.run_bind]
    rw [show (parts.map fun x => match x with | (i, x) => (i, a.eval x)) = (parts.toList.map fun p => (p.1, a.eval p.2)).toArray from e', hr']
    rfl
  unfold OpRuns
  rw [hrun]
  subst hr
  exact ⟨.refl _ _, cs, by simp only [RdC]; exact q2, rfl⟩
/-- a literal with one part of which it is only known how it reads -/
def IsHole (f : Value → Value) (φ : Fact) : Fact := fun g u W => ∃ ad n c, u = f (.slice ad n c) ∧ φ g (.slice ad n c) W
theorem st_hole {f : Value → Value} {φ : Fact} (h : Stable S φ) : Stable S (IsHole f φ) :=
  ⟨fun _ _ _ _ k ⟨a, n, c, e, hu⟩ => ⟨a, n, c, e, h.world _ _ _ _ k hu⟩, fun _ _ _ _ _ hb ⟨a, n, c, e, hu⟩ => ⟨a, n, c, e, h.ghost _ _ _ _ _ hb hu⟩⟩
def PartsH (S : Nat → Prop) (w0 : World) (a0 : Act) (Γ : Ctx) (y : Operand) : List (Nat × Operand) → List (Nat × Option Value) → Prop
  | [], [] => True
  | (i, x) :: ps, (j, some v) :: vs => i = j ∧ Has S w0 a0 Γ x (Is v) ∧ PartsH S w0 a0 Γ y ps vs
  | (i, x) :: ps, (j, none) :: vs => i = j ∧ x = y ∧ PartsH S w0 a0 Γ y ps vs
  | _, _ => False
theorem PartsH.vals {o : Oper} {y : Operand} {a : Act} {g : Gh} {W : World} (hk : Keeps S w0 W) (hg : GOk w0 W g) (he : Env Γ a0 a g W (o.looksAt ops)) : ∀ (ps : List (Nat × Operand)) (vs : List (Nat × Option Value)), PartsH S w0 a0 Γ y ps vs → (∀ p ∈ ps, p.2 ∈ o.op.operands) →
    ps.map (fun p => (p.1, a.eval p.2)) = vs.map (fun p => (p.1, p.2.getD (a.eval y)))
  | [], [], _, _ => rfl
  | [], _ :: _, h, _ => h.elim
  | _ :: _, [], h, _ => h.elim
  | (i, x) :: ps, (j, some v) :: vs, ⟨h1, h2, h3⟩, hm => by
    have e : a.eval x = v := h2.of_env hk hg he (hm (i, x) List.mem_cons_self)
    simp [h1, e, PartsH.vals hk hg he ps vs h3 fun p hp => hm p (List.mem_cons_of_mem _ hp)]
  | (i, x) :: ps, (j, none) :: vs, ⟨h1, h2, h3⟩, hm => by
    subst h2
    simp [h1, PartsH.vals hk hg he ps vs h3 fun p hp => hm p (List.mem_cons_of_mem _ hp)]
theorem sp_build1 {T : TypeId} {parts : Array (Nat × Operand)} {vs : List (Nat × Option Value)} {y : Operand} {φ : Fact} {fs : Array Field} {zs : Array Value} {cells : Value → Array Value} (hT : P.underlying T = some (.struct fs)) (hz : zeroOf P T = some (.agg zs)) {pls : List (Nat × Nat)} (hpl : (fs.toList.all fun f => (szOf P f.type).isSome) = true ∧ placesOf P fs.toList = pls)
    (hy : Has S w0 a0 Γ y φ) (hym : ∀ a : Act, y ∈ (Oper.op ⟨d, .build T parts, ty, pos, af, gd⟩).operands) (hsl : ∀ g u W, φ g u W → ∃ ad n c, u = .slice ad n c) (hp : PartsH S w0 a0 Γ y parts.toList vs)
    (hf : ∀ ad n c, Instr.fill (fun i => pls.toArray[i]?) zs (vs.map fun p => (p.1, p.2.getD (.slice ad n c))) = some (cells (.slice ad n c))) :
    Spec P ops S w0 a0 Γ ⟨d, .build T parts, ty, pos, af, gd⟩ (IsHole (fun v => .agg (cells v)) φ) := fun a g W hk hg he => by
  have hyv := hy.of_env hk hg he (hym a)
  obtain ⟨ad, n, c, ey⟩ := hsl _ _ _ hyv
  have hm := hp.vals hk hg he _ _ (fun p hp => by simp [Op.operands]; exact ⟨p.1, by simpa using hp⟩)
  obtain ⟨hok, rfl⟩ := hpl
  rw [ey] at hm hyv
  have hr' := run_build (P := P) (vs := (parts.toList.map fun p => (p.1, a.eval p.2)).toArray) (zs := zs) (cells := cells (.slice ad n c)) hT hz hok (by rw [hm]; simpa using hf ad n c) W
  have e' : (parts.map fun x => (x.1, a.eval x.2)) = (parts.toList.map fun p => (p.1, a.eval p.2)).toArray := by apply Array.ext'; simp
  have hrun : (execOp a.eval ⟨d, .build T parts, ty, pos, af, gd⟩).run P W = .ok (.value (.agg (cells (.slice ad n c)))) W := by
    simp only [execOp, Sem.run_bind]
    rw [show (parts.map fun x => match x with | (i, x) => (i, a.eval x)) = (parts.toList.map fun p => (p.1, a.eval p.2)).toArray from e', hr']
    rfl
  unfold OpRuns
  rw [hrun]
  exact ⟨.refl _ _, ad, n, c, rfl, hyv⟩
theorem sl_strs {X : BSet} {ns : List ByteArray} : ∀ g u W, IsD X (strsD ns) g u W → ∃ ad n c, u = .slice ad n c := fun _ _ _ h => by obtain ⟨ad, c, e, _⟩ := rdS_out h; exact ⟨ad, _, c, e⟩
theorem sl_vals {X : BSet} {xs : List V} : ∀ g u W, IsD X (valsD xs) g u W → ∃ ad n c, u = .slice ad n c := fun _ _ _ h => by obtain ⟨ad, c, e, _⟩ := rdVs_out h; exact ⟨ad, _, c, e⟩
end
end Go.Eng
