/- append onto a slice of the call's own, any element: where the new slice lies; over Loc. -/
import Derived.Test.YtjnaegpjhbobaaaSlT
namespace Go.Proofs.Ytjnaegpjhbobaaa
open Go.RowKit
section
variable {P : Program}
theorem append_where (w : World) (base : Nat) (t ty e : TypeId) (i : TypeInfo) (z : Value) (ht : P.underlying t = some (.slice e)) (hi : P.info? e = some i) (hz : i.zero = some z)
    (v : Value) (n : Nat) (xs : List Value) (hown : w.ownsRow base e i.size v n xs)
    (a : Addr) (m c : Nat) (news : List Value) (hl : news.length = m * i.size) (hnews : ∀ j u, news[j]? = some u → w.cell? (a.add j) = some u) (h1 : ∀ u ∈ news, u.oneCell' = true)
    (h63 : n + m ≤ maxLen) (hbytes : (n + m) * i.bytes ≤ 140737488355328) (v' : Value) (w' : World) (hr : (Builtin.append_ #[t, t] ty #[v, .slice (some a) m c]).run P w = .ok v' w') (hm : 0 < m) :
    v'.ownBlock = v.ownBlock ∨ v'.ownBlock = some w.heap.size := by
  have hsmall : n + m ≤ 9223372036854775807 := by simp only [maxLen] at h63; omega
  rcases hown with ⟨hlen, ⟨rfl, rfl⟩ | ⟨g, cap, cur, rfl, hbg, hg, hnc, hcm, hcs, htake⟩⟩
  · have h2 := run_append_nil (P := P) w t ty e i z ht hi hz a m c news hl hnews hm (by omega) (by have hb := hbytes; simp only [Nat.zero_add] at hb; omega)
    rw [h2] at hr
    cases hr
    exact .inr rfl
  · by_cases hroom : n + m ≤ cap
    · have hfit : n * i.size + news.length ≤ cur.size := by rw [hl, hcs, ← Nat.add_mul]; exact Nat.mul_le_mul_right _ hroom
      have h2 := run_append_room (P := P) w t ty e i ht hi g n cap cur hg a m c news hl hnews h1 hroom hfit
      rw [h2] at hr
      cases hr
      exact .inl rfl
    · have holds : ∀ j u, xs[j]? = some u → w.cell? ((⟨g, 0, none⟩ : Addr).add j) = some u := World.ownsRow.cells (base := base) (e := e) (size := i.size) (n := n) (v := .slice (some ⟨g, 0, none⟩) n cap) ⟨hlen, .inr ⟨g, cap, cur, rfl, hbg, hg, hnc, hcm, hcs, htake⟩⟩ rfl
      have h2 := run_append_grow (P := P) w t ty e i z ht hi hz ⟨g, 0, none⟩ n cap xs hlen holds a m c news hl hnews (by omega) (by omega) (growslice_fits (by omega) hbytes)
      rw [h2] at hr
      cases hr
      exact .inr rfl
/-- What is known of an element's type. -/
structure ElemT (P : Program) (t e : TypeId) (sz bytes : Nat) : Prop where
  under : P.underlying t = some (.slice e)
  info : ∃ i z, P.info? e = some i ∧ i.zero = some z ∧ i.size = sz ∧ i.bytes = bytes ∧ z.cells.size = sz
  pos : 0 < sz
theorem L_appT {α : Type} {sz : Nat} {f : α → List Value} {t e : TypeId} {bytes : Nat} (he : ElemT P t e sz bytes) 
    {w0 w : World} {bs : List Bk} {ops : Array Oper} {rest : List Oper} {o : Oper} {a : Act} {Q : Exit → Act → World → Prop} (H : Kp (Loc w0 w bs)) (hgd : o.guard = none) (s x : Operand)
    (ho : o.op = .call { callee := .builtin .append, args := #[s, x], argTypes := #[t, t] })
    (base : Nat) (hb0 : w0.heap.size ≤ base) (hbase : base ≤ w.heap.size) (v : Value) (xs : List α) (hs : a.eval s = v) (hown : w.ownsRow base e sz v xs.length (xs.flatMap f)) (hsep : ∀ g ∈ bs.map (·.1), v.ownBlock ≠ some g)
    (g : Nat) (y : α) (hx : a.eval x = .slice (some ⟨g, 0, none⟩) 1 1) (E : TypeId) (hy : Lc w g E (f y)) (hf : (f y).length = sz) (h1 : ∀ u ∈ f y, u.oneCell' = true) (hlen : (xs.length + 1) * bytes ≤ 140737488355328) (hlen2 : xs.length + 1 ≤ 100000000)
    (h : ∀ v' w', Kp (w'.ownsRow base e sz v' (xs ++ [y]).length ((xs ++ [y]).flatMap f)) → Kp (w.grownBy w' v.ownBlock) → Kp (v'.ownBlock = v.ownBlock ∨ v'.ownBlock = some w.heap.size) → Kp (Loc w0 w' bs) → wpList P ops Q rest (a.put o.dst v') w') : wpList P ops Q (o :: rest) a w := by
  obtain ⟨i, z, hi, hz, hsz, hby, hzs⟩ := he.info
  subst hsz hby
  have hl : (f y).length = 1 * i.size := by rw [hf, Nat.one_mul]
  have hnews : ∀ j u, (f y)[j]? = some u → w.cell? ((⟨g, 0, none⟩ : Addr).add j) = some u := fun j u hu => by
    rw [Addr.add_mid, Nat.zero_add]; exact hy.cell hu
  have h63 : xs.length + 1 ≤ maxLen := by simp only [maxLen]; omega
  refine wpList_plain hgd fun K hK => ?_
  obtain ⟨v', w', hr, h2, h3, _⟩ := run_append_own (P := P) w base t o.type e i z i.size i.bytes he.under hi hz rfl rfl hzs he.pos v xs.length (xs.flatMap f) hown ⟨g, 0, none⟩ 1 1 (f y) hl hnews h1 h63 hlen hbase
  have h4 := append_where (P := P) w base t o.type e i z he.under hi hz v xs.length (xs.flatMap f) hown ⟨g, 0, none⟩ 1 1 (f y) hl hnews h1 h63 hlen v' w' hr (by omega)
  unfold Oper.wp execOp
  simp only [ho, resolve, invoke, builtin, Sem.run_bind, Sem.run_pure, Result.andThen_ok, List.map_toArray, List.map_cons, List.map_nil, hs, hx, hr]
  refine hK _ _ (h v' w' (kp ?_) (kp h3) (kp h4) (kp ?_))
  · rw [List.length_append, List.flatMap_append, List.flatMap_cons, List.flatMap_nil, List.append_nil]; exact h2
  · refine ⟨H.out.1.grown h3 (fun k hk => Nat.le_trans hb0 (ownsT_block hown k hk)), H.out.2.1, fun b hbm => ⟨(H.out.2.2 b hbm).1, ?_⟩⟩
    have h5 := (H.out.2.2 b hbm).2
    exact (h3.block b.1 h5.lt (fun e => hsep b.1 (List.mem_map.2 ⟨b, hbm, rfl⟩) e.symm)).trans h5
end
theorem ownsT_lt {w : World} {base E n sz : Nat} {v : Value} {xs : List Value} (h : w.ownsRow base E sz v n xs) : ∀ k, v.ownBlock = some k → k < w.heap.size := by
  intro k hk
  obtain ⟨_, h2⟩ := h
  rcases h2 with ⟨rfl, _⟩ | ⟨g, cap, cur, rfl, hb, hg, _⟩
  · cases hk
  · have : g = k := by simpa [Value.ownBlock] using hk
    subst this
    exact (Array.getElem?_eq_some_iff.1 hg).1
theorem ownsT_chg {w w' : World} {base E n sz lo : Nat} {v : Value} {xs : List Value} (h : w.ownsRow base E sz v n xs) (hc : Chg lo w w') (hl : ∀ k, v.ownBlock = some k → k < lo) : w'.ownsRow base E sz v n xs :=
  ownsT_keep h fun k hk => hc.2 k (hl k hk)
theorem ownsT_grown {w w' : World} {base E n sz : Nat} {v : Value} {xs : List Value} {row : Option Nat} (h : w.ownsRow base E sz v n xs) (hg : w.grownBy w' row) (hne : ∀ k, v.ownBlock = some k → row ≠ some k) : w'.ownsRow base E sz v n xs :=
  ownsT_keep h fun k hk => hg.block k (ownsT_lt h k hk) (fun e => hne k hk e.symm)
theorem ownsT_wrote {w w' : World} {base E n sz g : Nat} {v : Value} {xs : List Value} (h : w.ownsRow base E sz v n xs) (hw : Wrote w w' g) (hne : v.ownBlock ≠ some g) : w'.ownsRow base E sz v n xs := by
  obtain ⟨ds, rfl⟩ := hw
  exact ownsT_keep h fun k hk => setRow_other _ _ _ _ (fun e => hne (e ▸ hk))
theorem Loc.join {w0 w w' : World} {bs bs0 : List Bk} (h : Loc w0 w bs0) (k : Loc w w' bs) : Loc w0 w' (bs ++ bs0) := by
  refine ⟨h.1.trans k.1, ?_, fun b hb => ?_⟩
  · rw [List.map_append, List.nodup_append]
    refine ⟨k.2.1, h.2.1, fun a ha c hc => ?_⟩
    obtain ⟨x, hx, rfl⟩ := List.mem_map.1 ha
    obtain ⟨y, hy, rfl⟩ := List.mem_map.1 hc
    have h1 := (k.2.2 x hx).1
    have h2 := (h.2.2 y hy).2.lt
    omega
  · rcases List.mem_append.1 hb with hb | hb
    · exact ⟨Nat.le_trans h.1.size (k.2.2 b hb).1, (k.2.2 b hb).2⟩
    · exact ⟨(h.2.2 b hb).1, (h.2.2 b hb).2.ext k.1⟩
theorem sep_of {wr wc : World} {bs : List Bk} {g4 T : Nat} {cs : List Value} {v : Value} (H : Loc wr wc bs) (hv : ∀ k, v.ownBlock = some k → k < wr.heap.size) (h4 : v.ownBlock ≠ some g4) : ∀ g ∈ (bs ++ [(g4, T, cs)]).map (·.1), v.ownBlock ≠ some g := by
  intro g hg e
  rw [List.map_append] at hg
  rcases List.mem_append.1 hg with hg | hg
  · obtain ⟨b, hb, rfl⟩ := List.mem_map.1 hg
    have := (H.2.2 b hb).1
    have := hv _ e
    omega
  · simp at hg; subst hg; exact h4 e
end Go.Proofs.Ytjnaegpjhbobaaa
