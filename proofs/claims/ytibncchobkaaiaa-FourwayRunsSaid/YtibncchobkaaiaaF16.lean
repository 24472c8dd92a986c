/- Texts of this proof, put together: Send, HsP, Plain22, HsA. -/
import Derived.Test.YtibncchobkaaiaaF15
import Derived.Test.YtibncchobkaaiaaF12
import Derived.Test.YtibncchobkaaiaaF11
import Derived.Test.YtibncchobkaaiaaF9
import Derived.Test.YtibncchobkaaiaaF1
namespace Go.Proofs.Ytibncchobkaaiaa
open Go.RowKit
theorem SlB.form2 {w : World} {v : Value} {l : By} (h : SlB w v l) : ∃ ad n c, v = .slice ad n c ∧ SlB w (.slice ad n c) l := by
 obtain ⟨a, c, e⟩ := h.form
 exact ⟨a, _, c, e, e ▸ h⟩
theorem SlB.wroteN {w w' : World} {g : Nat} {v : Value} {l : By} (h : SlB w v l) (hw : Wrote w w' g) (hne : ∀ b off n c, v = .slice (some ⟨b, off, none⟩) n c → b ≠ g) : SlB w' v l := by
 obtain ⟨ds, rfl⟩ := hw
 rcases h with h | ⟨b, off, c, h1, h2, h3⟩
 ·exact .inl h
 ·exact .inr ⟨b, off, c, h1, by rw [setRow_size]; exact h2, fun j x hj => (cell_setRow (hne b off _ c h1)).trans (h3 j x hj)⟩
theorem owns_form {w : World} {base E n : Nat} {v : Value} {xs : List Value} (h : w.ownsRow base E 1 v n xs) : ∃ a c, v = .slice a n c := by
 obtain ⟨h1, ⟨rfl, h2⟩ | ⟨g, cap, cur, rfl, _⟩⟩ := h
 ·subst h2; exact ⟨none, 0, rfl⟩
 ·exact ⟨_, _, rfl⟩
theorem owns_form2 {w : World} {base E n : Nat} {v : Value} {xs : List Value} (h : w.ownsRow base E 1 v n xs) : ∃ a m c, v = .slice a m c := by
 obtain ⟨a, c, e⟩ := owns_form h
 exact ⟨a, n, c, e⟩
def Msgs (B : Nat) (w : World) (vs : List Value) (ls : List By) : Prop := vs.length = ls.length ∧ ∀ (j : Nat) u l, vs[j]? = some u → ls[j]? = some l → w.ownsRow B 5 1 u l.length (l.map V8)
theorem Msgs.ext {B : Nat} {w w' : World} {vs : List Value} {ls : List By} (h : Msgs B w vs ls) (hx : Ext w w') : Msgs B w' vs ls := ⟨h.1, fun j u l hu hl => owns_ext (h.2 j u l hu hl) hx⟩
theorem Msgs.weak {B B' : Nat} {w : World} {vs : List Value} {ls : List By} (h : Msgs B w vs ls) (hb : B' ≤ B) : Msgs B' w vs ls := ⟨h.1, fun j u l hu hl => owns_weak (h.2 j u l hu hl) hb⟩
theorem Msgs.out {B : Nat} {G : List Nat} {w w' : World} {vs : List Value} {ls : List By} (h : Msgs B w vs ls) (ho : Out G w w') (hG : ∀ g ∈ G, g < B) : Msgs B w' vs ls := ⟨h.1, fun j u l hu hl => owns_out (h.2 j u l hu hl) ho hG⟩
def SlBB (B : Nat) (w : World) (v : Value) (ls : List By) : Prop := ∃ vs, w.ownsRow B 33 1 v ls.length vs ∧ Msgs B w vs ls
theorem SlBB.ext {B : Nat} {w w' : World} {v : Value} {ls : List By} (h : SlBB B w v ls) (hx : Ext w w') : SlBB B w' v ls := by
 obtain ⟨vs, h1, h2⟩ := h
 exact ⟨vs, owns_ext h1 hx, h2.ext hx⟩
theorem SlBB.weak {B B' : Nat} {w : World} {v : Value} {ls : List By} (h : SlBB B w v ls) (hb : B' ≤ B) : SlBB B' w v ls := by
 obtain ⟨vs, h1, h2⟩ := h
 exact ⟨vs, owns_weak h1 hb, h2.weak hb⟩
theorem SlBB.out {B : Nat} {G : List Nat} {w w' : World} {v : Value} {ls : List By} (h : SlBB B w v ls) (ho : Out G w w') (hG : ∀ g ∈ G, g < B) : SlBB B w' v ls := by
 obtain ⟨vs, h1, h2⟩ := h
 exact ⟨vs, owns_out h1 ho hG, h2.out ho hG⟩
theorem SlBB.nil (B : Nat) (w : World) : SlBB B w (.slice none 0 0) [] := ⟨[], ⟨rfl, .inl ⟨rfl, rfl⟩⟩, rfl, fun j u l h => by simp at h⟩
theorem SlBB.one {B : Nat} {w : World} {g : Nat} {v : Value} {l : By} (h : Lc w g 33 [v]) (hb : B ≤ g) (hs : w.ownsRow B 5 1 v l.length (l.map V8)) : SlBB B w (.slice (some ⟨g, 0, none⟩) 1 1) [l] :=
 ⟨[v], ⟨rfl, .inr ⟨g, 1, #[v], rfl, hb, h, Nat.le_refl _, by unfold maxLen; omega, rfl, rfl⟩⟩, rfl, fun j u m hj hm => by
  match j with
  | 0 => cases hj; cases hm; exact hs
  | n + 1 => simp at hj⟩
theorem SlBB.form {B : Nat} {w : World} {v : Value} {ls : List By} (h : SlBB B w v ls) : ∃ a c, v = .slice a ls.length c := by
 obtain ⟨vs, h1, _⟩ := h; exact owns_form h1
theorem SlBB.first {B : Nat} {w : World} {v : Value} {l : By} {ls : List By} (h : SlBB B w v (l :: ls)) : ∃ b c u, v = .slice (some ⟨b, 0, none⟩) (l :: ls).length c ∧ w.cell? ⟨b, 0, none⟩ = some u ∧ w.ownsRow B 5 1 u l.length (l.map V8) := by
 obtain ⟨vs, ⟨h1, ⟨_, h2⟩ | ⟨g, cap, cur, rfl, hb, hg, h5, h6, h7, h8⟩⟩, h4, h3⟩ := h
 ·simp at h2
 ·obtain ⟨u, us, rfl⟩ : ∃ u us, vs = u :: us := by
   cases vs with
   | nil => simp at h4
   | cons u us => exact ⟨u, us, rfl⟩
  refine ⟨g, cap, u, rfl, ?_, h3 0 u l rfl rfl⟩
  have hc : cur[0]? = some u := by
   have : cur.toList[0]? = some u := by
    have h9 := congrArg (fun z => z[0]?) h8
    simpa [List.getElem?_take] using h9
   simpa using this
  rw [cell_of_row w g 0 _ _ (0, 0) hg]; exact hc
theorem mono_SlBB {G : List Nat} {B : Nat} (ls : List By) (hG : ∀ g ∈ G, g < B) : MonoO G (fun v w => SlBB B w v ls) := fun _ _ _ h ho => h.out ho hG
def ResR (r : Res) (w : World) (e : Ending) (w' : World) : Prop := ∃ v, e = .returned (.tuple #[.agg (cat (partsF r.1)).toArray, v, .int .i64 r.2.2]) ∧ SlBB w.heap.size w' v r.2.1 ∧ Ext w w'
theorem send_3 {s : Fw} (h : s.stage = 3) : sendF s = signedF s.pair.c.1 3 s.replay s.mine.1 (wrapF s.pair.w.1 3 s.replay s.mine.1 s.gid s.gkey.1) := by simp [sendF, h]
theorem send_n {s : Fw} (h : s.stage ≠ 3) : sendF s = signedF s.pair.c.1 1 s.replay s.mine.1 [] := by simp [sendF, h]
set_option maxRecDepth 4000 in
set_option maxHeartbeats 1600000 in
theorem send_any (s : Fw) (w : World) : Calls Try.prog 30 #[.agg (cat (partsF s)).toArray] w fun e w' => ∃ v, e = .returned v ∧ SlBB w.heap.size w' v [sendF s] ∧ Ext w w' := by
 have H := kp (Loc.start w)
 have HBM := kp (build_M 1 s.replay s.mine)
 have HWR := kp (wrap_any s.pair.w 3 s.replay (by decide) (by decide) s.mine s.gid s.gkey)
 have HWL := kp (wrapF_len s.pair.w.1 3 s.replay s.mine.1 s.gid s.gkey)
 have HS1 := kp (fun w => signed_any s.pair.c 1 s.replay (by decide) (by decide) s.mine none 0 0 [] (by decide) w (SlB.nil w))
 have HS3 := kp (fun ad c w hs => signed_any s.pair.c 3 s.replay (by decide) (by decide) s.mine ad 25 c (wrapF s.pair.w.1 3 s.replay s.mine.1 s.gid s.gkey.1) (by rw [HWL.out]; decide) w hs)
 have HK3 := kp (fun h : s.stage = 3 => send_3 h)
 have HKN := kp (fun h : s.stage ≠ 3 => send_n h)
 go_enter Try.func30, Try.ntmps30
 generalize h3 : ((Code.region 3 _ _ : Code).seq _) = R3
 generalize h5 : (Code.region 5 _ _ : Code) = R5
 go_wp2_with (first | ((with_reducible refine isBx 1 32 ?_); (refine L_box H rfl 32 _ rfl (cat (partsF s)) rfl ?_); clear H; intro g1 w1 HGg1 HEg1 H; simp only [pA]) | ((with_reducible refine isLd 3 ?_); (refine L_f1 H rfl 3 _ rfl 0 rfl _ rfl _ rfl _ rfl Try.underlying3 rfl ?_); simp only [pA]) | ((with_reducible refine isLd 26 ?_); (refine L_fv H rfl 26 _ rfl 0 rfl _ rfl _ rfl rfl Try.underlying26 rfl (by kernel_rfl) ?_); simp only [pA]) | ((with_reducible show wpList _ _ _ (Oper.mk (some 8) (Op.build _ _) _ _ _ _ :: _) _ _); (refine L_bd rfl 78 _ rfl #[(0, .int .u8 1), (1, .int .i64 s.replay), (2, .agg (s.mine.1.map V8).toArray)] (by kernel_rfl) (cat (partsM 1 s.replay s.mine none 0 0)) HBM.out ?_); simp only [pA]) | ((with_reducible refine isAl 3 78 ?_); (refine L_alloc H rfl 78 rfl (cat (partsM 0 0 (zv 16) none 0 0)) (fun _ _ => by kernel_rfl) ?_); clear H; intro g3 w3 HGg3 HEg3 H; simp only [pA]) | ((with_reducible refine isSt 78 ?_); (refine L_sa H rfl rfl 78 _ _ rfl 0 rfl rfl (partsM 1 s.replay s.mine none 0 0) rfl rfl (by kernel_rfl) ?_; clear H; intro w4 HWw4 H; simp only [szA] at H)) | ((with_reducible refine isLd 5 ?_); (refine L_f1 H rfl 5 _ rfl 1 rfl _ rfl _ rfl _ rfl Try.underlying5 rfl ?_); simp only [pA]))
 ·rename (s.stage == 3) = true => hst
  have HK := kp (HK3.out (by simpa using hst))
  clear hst
  subst h3
  go_wp2_with (first | ((with_reducible refine isSt 5 ?_); (refine L_s1 H rfl rfl 5 _ _ rfl 0 rfl _ rfl _ rfl _ rfl rfl rfl rfl (by kernel_rfl) (partsM 3 s.replay s.mine none 0 0) rfl ?_; clear H; intro w5 HWw5 H; simp only [szA] at H)) | ((with_reducible refine isLd 78 ?_); (refine L_fa H rfl 78 _ rfl 0 rfl rfl Try.underlying78 rfl (by kernel_rfl) ?_); simp only [pA]) | ((with_reducible refine isLd 25 ?_); (refine L_fv H rfl 25 _ rfl 1 rfl _ rfl _ rfl rfl Try.underlying25 rfl (by kernel_rfl) ?_); simp only [pA]) | ((with_reducible refine isLd 30 ?_); (refine L_fg H rfl 30 _ rfl 1 rfl _ rfl _ rfl (partsG s.gid s.gkey) rfl Try.underlying30 rfl (by kernel_rfl) ?_); simp only [pA]) | (go_at_call 46; refine (HWR.out _).mono ?_; have HLT := kp (show g3 < w5.heap.size from H.out.lt 0 rfl); rintro e wa ⟨ad, c, rfl, hs, hx, hn⟩; have HWO := kp (fun {w6 : World} (hw : Wrote wa w6 g3) => hs.wroteN hw (fun b off n c e => by have q1 := hn b off n c e; have q2 := HLT.out; omega)); clear hs hn; replace H := kp (H.out.ext hx); have HXC := kp hx; clear hx) | ((with_reducible refine isSt 78 ?_); (refine L_sa H rfl rfl 78 _ _ rfl 0 rfl rfl (partsM 3 s.replay s.mine _ 25 _) rfl rfl (by kernel_rfl) ?_; clear H; intro w6 HWw6 H; simp only [szA] at H)))
  have HB3 := kp (HWO.out HWw6.out)
  subst h5
  go_wp2_with (first | ((with_reducible refine isLd 78 ?_); (refine L_fa H rfl 78 _ rfl 0 rfl rfl Try.underlying78 rfl (by kernel_rfl) ?_); simp only [pA]) | ((with_reducible refine isLd 25 ?_); (refine L_fv H rfl 25 _ rfl 1 rfl _ rfl _ rfl rfl Try.underlying25 rfl (by kernel_rfl) ?_); simp only [pA]) | (go_at_call 47; refine (HS3.out _ _ _ HB3.out).mono ?_; rintro e wb ⟨v, rfl, ho, hx⟩; have HSO := kp (owns_weak ho H.out.1.size); obtain ⟨av, nv, cv, rfl⟩ := owns_form2 HSO.out; clear ho; replace H := kp (H.out.ext hx); have HXC := kp hx; clear hx) | ((with_reducible show wpList _ _ _ (Oper.mk (some 25) (Op.buildSlice 34 _ _) _ _ _ _ :: _) _ _); (refine L_bs H (by kernel_rfl) 34 1 _ rfl (#[(0, .slice av nv cv)]) (by kernel_rfl) 33 ([.slice av nv cv]) (fun _ => by kernel_rfl) ?_); clear H; intro g25 w25 HGg25 HEg25 H; simp only [pA]))
  go_ret
  exact ⟨_, rfl, by rw [HK.out]; exact SlBB.one (H.out.at 0 rfl) (H.out.le 0 rfl) (owns_ext HSO.out HEg25.out), H.out.1⟩
 ·rename (s.stage == 3) = false => hst
  have HK := kp (HKN.out (by simpa using hst))
  clear hst
  subst h5
  go_wp2_with (first | ((with_reducible refine isLd 78 ?_); (refine L_fa H rfl 78 _ rfl 0 rfl rfl Try.underlying78 rfl (by kernel_rfl) ?_); simp only [pA]) | ((with_reducible refine isLd 25 ?_); (refine L_fv H rfl 25 _ rfl 1 rfl _ rfl _ rfl rfl Try.underlying25 rfl (by kernel_rfl) ?_); simp only [pA]) | (go_at_call 47; refine (HS1.out _).mono ?_; rintro e wa ⟨v, rfl, ho, hx⟩; have HSO := kp (owns_weak ho H.out.1.size); obtain ⟨av, nv, cv, rfl⟩ := owns_form2 HSO.out; clear ho; replace H := kp (H.out.ext hx); have HXC := kp hx; clear hx) | ((with_reducible show wpList _ _ _ (Oper.mk (some 25) (Op.buildSlice 34 _ _) _ _ _ _ :: _) _ _); (refine L_bs H (by kernel_rfl) 34 1 _ rfl (#[(0, .slice av nv cv)]) (by kernel_rfl) 33 ([.slice av nv cv]) (fun _ => by kernel_rfl) ?_); clear H; intro g25 w25 HGg25 HEg25 H; simp only [pA]))
  go_ret
  exact ⟨_, rfl, by rw [HK.out]; exact SlBB.one (H.out.at 0 rfl) (H.out.le 0 rfl) (owns_ext HSO.out HEg25.out), H.out.1⟩
end Go.Proofs.Ytibncchobkaaiaa
namespace Go.Proofs.Ytibncchobkaaiaa
theorem mixTo_at (l xs : List (BitVec 8)) (i : Nat) : ∀ k, k ≤ l.length → (mixTo l xs k).getD i 0 = if i < k then l.getD i 0 ^^^ xs.getD i 0 else l.getD i 0
 | 0, _ => by simp [mixTo]
 | k + 1, hk => by
  have ih := fun i => mixTo_at l xs i k (by omega)
  rw [mixTo]
  simp only [List.getD] at ih ⊢
  rw [List.getElem?_set]
  by_cases h : k = i
  ·subst h
   rw [if_pos rfl, if_pos (by rw [mixTo_len]; omega), if_pos (by omega)]
   have := ih k
   rw [if_neg (by omega)] at this
   simp only [Option.getD_some]
   rw [this]
  ·rw [if_neg h]
   have := ih i
   rw [this]
   by_cases h2 : i < k
   ·rw [if_pos h2, if_pos (by omega)]
   ·rw [if_neg h2, if_neg (by omega)]
theorem mixF_at (l xs : List (BitVec 8)) (i : Nat) (h : i < l.length) (h16 : i < 16) : (mixF l xs).getD i 0 = l.getD i 0 ^^^ xs.getD i 0 := by
 rw [mixF, mixTo_at _ _ _ _ (by omega), if_pos (by omega)]
theorem mixF_past (l xs : List (BitVec 8)) (i : Nat) (h16 : 16 ≤ i) : (mixF l xs).getD i 0 = l.getD i 0 := by
 rw [mixF, mixTo_at _ _ _ _ (by omega), if_neg (by omega)]
theorem getD_take (l : List (BitVec 8)) (n i : Nat) (h : i < n) : (l.take n).getD i 0 = l.getD i 0 := by
 simp only [List.getD]; rw [List.getElem?_take, if_pos h]
theorem getD_drop (l : List (BitVec 8)) (n i : Nat) : (l.drop n).getD i 0 = l.getD (n + i) 0 := by
 simp only [List.getD]; rw [List.getElem?_drop]
theorem getD_left (l m : List (BitVec 8)) (i : Nat) (h : i < l.length) : (l ++ m).getD i 0 = l.getD i 0 := by
 simp only [List.getD]; rw [List.getElem?_append_left h]
theorem getD_right (l m : List (BitVec 8)) (i : Nat) (h : l.length ≤ i) : (l ++ m).getD i 0 = m.getD (i - l.length) 0 := by
 simp only [List.getD]; rw [List.getElem?_append_right h]
theorem getD_past (l : List (BitVec 8)) (i : Nat) (h : l.length ≤ i) : l.getD i 0 = 0 := by
 simp only [List.getD]; rw [List.getElem?_eq_none h]; rfl
theorem ext_getD {l m : List (BitVec 8)} (hl : l.length = m.length) (h : ∀ i, i < l.length → l.getD i 0 = m.getD i 0) : l = m := by
 refine List.ext_getElem hl fun i h1 h2 => ?_
 have := h i h1
 simpa [List.getD, List.getElem?_eq_getElem h1, List.getElem?_eq_getElem h2] using this
theorem cryptTo_at (ks nc l : List (BitVec 8)) (i : Nat) (hi : i < l.length) : ∀ j, (cryptTo ks nc l j).getD i 0 = if i < 16 * j then l.getD i 0 ^^^ (streamF ks nc (1 + ((i / 16 : Nat) : Int))).getD (i % 16) 0 else l.getD i 0
 | 0 => by simp [cryptTo]
 | j + 1 => by
  have ih := cryptTo_at ks nc l i hi j
  rw [cryptTo]
  by_cases h : i < 16 * j
  ·rw [getD_left _ _ _ (by rw [List.length_take, cryptTo_len]; omega), getD_take _ _ _ h, ih, if_pos h, if_pos (by omega)]
  ·have hl : ((cryptTo ks nc l j).take (16 * j)).length = 16 * j := by rw [List.length_take, cryptTo_len]; omega
   rw [getD_right _ _ _ (by omega), hl]
   by_cases h2 : i < 16 * (j + 1)
   ·rw [mixF_at _ _ _ (by rw [List.length_drop, cryptTo_len]; omega) (by omega), getD_drop, show 16 * j + (i - 16 * j) = i by omega, ih, if_neg h, if_pos h2, show i / 16 = j by omega, show i % 16 = i - 16 * j by omega]
   ·rw [mixF_past _ _ _ (by omega), getD_drop, show 16 * j + (i - 16 * j) = i by omega, ih, if_neg h, if_neg h2]
theorem cryptF_at (ks nc l : List (BitVec 8)) (i : Nat) (hi : i < l.length) : (cryptF ks nc l).getD i 0 = l.getD i 0 ^^^ (streamF ks nc (1 + ((i / 16 : Nat) : Int))).getD (i % 16) 0 := by
 rw [cryptF, cryptTo_at ks nc l i hi, if_pos (by omega)]
theorem cryptF_cryptF (ks nc l : List (BitVec 8)) : cryptF ks nc (cryptF ks nc l) = l := by
 refine ext_getD (by rw [cryptF_len, cryptF_len]) fun i hi => ?_
 rw [cryptF_len] at hi
 rw [cryptF_at _ _ _ _ hi, cryptF_at _ _ _ _ (by rw [cryptF_len] at hi; exact hi), BitVec.xor_assoc, BitVec.xor_self, BitVec.xor_zero]
theorem ordF_swap {a b m n : By} (h : a.length = b.length) (hab : a ≠ b) : ordF a b m n = ordF b a n m := by
 unfold ordF
 have hne : numF a ≠ numF b := fun e => hab (num_inj h e)
 have e1 : 0 < cmpF a b ↔ numF b < numF a := by unfold cmpF; split <;> (try split) <;> omega
 have e2 : 0 < cmpF b a ↔ numF a < numF b := by unfold cmpF; split <;> (try split) <;> omega
 by_cases c : numF b < numF a
 ·rw [if_pos (e1.2 c), if_neg (fun q => by have := e2.1 q; omega)]
 ·rw [if_neg (fun q => c (e1.1 q)), if_pos (e2.2 (by omega))]
theorem pairF_swap (k : Vc 16) (a b : Vc 6) (m n : Vc 16) : pairF k a b m n = pairF k b a n m := by
 unfold pairF
 by_cases h : a = b
 ·rw [if_pos h, if_pos h.symm]
 ·rw [if_neg h, if_neg (fun e => h e.symm), ordF_swap (by rw [a.2, b.2]) (fun e => h (Subtype.ext e))]
theorem openM_gid {k : By} {kind count : Int} {nonce data : By} {g : Int × Vc 16} (h : openM k kind count nonce data = some g) : g.1 = 2 ∨ g.1 = 3 := by
 unfold openM at h
 split at h
 ·rename_i q
  cases h
  exact q.2.2
 ·cases h
theorem startF_ok {s : Fw} {now : Int} (h : (startF s now).2.2 = 0) : checkedF s now = 0 ∧ s.role = 1 ∧ s.stage = 0 ∧ startF s now = ({ s with stage := 1, replay := 1, tries := 1, due := now + 100000 }, [sendF { s with stage := 1, replay := 1, tries := 1, due := now + 100000 }], 0) := by
 unfold startF at h ⊢
 split at h
 ·rename_i q; exact absurd h q
 ·rename_i q
  split at h
  ·exact absurd h (by decide)
  ·rename_i q2
   refine ⟨by omega, by omega, by omega, ?_⟩
   rw [if_neg q, if_neg q2]
theorem tickF_ok {s : Fw} {now : Int} (h : (tickF s now).2.2 = 0) : checkedF s now = 0 ∧
  (((s.due = 0 ∨ now < s.due) ∧ tickF s now = (s, [], 0)) ∨
   (¬ (s.due = 0 ∨ now < s.due) ∧ s.tries = 4 ∧ tickF s now = ({ s with stage := 5, other := zv 16, pair := ks0, tries := 0, due := 0 }, [], 0)) ∨
   (¬ (s.due = 0 ∨ now < s.due) ∧ s.tries ≠ 4 ∧ tickF s now = ({ s with tries := s.tries + 1, replay := s.replay + 1, due := now + 100000 }, [sendF { s with tries := s.tries + 1, replay := s.replay + 1, due := now + 100000 }], 0))) := by
 unfold tickF at h ⊢
 by_cases q : checkedF s now ≠ 0
 ·rw [if_pos q] at h; exact absurd h q
 ·rw [if_neg q]
  refine ⟨by omega, ?_⟩
  by_cases q2 : s.due = 0 ∨ now < s.due
  ·exact .inl ⟨q2, by rw [if_pos q2]⟩
  ·rw [if_neg q2]
   by_cases q3 : s.tries = 4
   ·exact .inr (.inl ⟨q2, q3, by rw [if_pos q3]⟩)
   ·exact .inr (.inr ⟨q2, q3, by rw [if_neg q3]⟩)
theorem tickF_still {s : Fw} {now : Int} (h : checkedF s now = 0) (h1 : s.due = 0 ∨ now < s.due) : tickF s now = (s, [], 0) := by
 unfold tickF; rw [if_neg (by omega), if_pos h1]
theorem tickF_fail {s : Fw} {now : Int} (h : checkedF s now = 0) (h1 : ¬ (s.due = 0 ∨ now < s.due)) (h2 : s.tries = 4) : tickF s now = ({ s with stage := 5, other := zv 16, pair := ks0, tries := 0, due := 0 }, [], 0) := by
 unfold tickF; rw [if_neg (by omega), if_neg h1, if_pos h2]
theorem tickF_again {s : Fw} {now : Int} (h : checkedF s now = 0) (h1 : ¬ (s.due = 0 ∨ now < s.due)) (h2 : s.tries ≠ 4) : tickF s now = ({ s with tries := s.tries + 1, replay := s.replay + 1, due := now + 100000 }, [sendF { s with tries := s.tries + 1, replay := s.replay + 1, due := now + 100000 }], 0) := by
 unfold tickF; rw [if_neg (by omega), if_neg h1, if_neg h2]
def Hs2 (s : Fw) (b : By) (now : Int) : Prop := s.role = 1 ∧ s.stage = 1 ∧ kindP b = 2 ∧ countP b = s.replay ∧ rightF b (keysF s (nonceP b)).c.1 = true ∧ handleF s b now = (s.second b now, [sendF (s.second b now)], 0)
def Hs4 (s : Fw) (b : By) (now : Int) : Prop := s.role = 1 ∧ s.stage = 3 ∧ kindP b = 4 ∧ countP b = s.replay ∧ rightF b s.pair.c.1 = true ∧ handleF s b now = ({ s with stage := 4, inst := 1, tries := 0, due := 0 }, [], 0)
def Hs1 (s : Fw) (b : By) (now : Int) : Prop := s.role = 2 ∧ (s.stage = 0 ∨ s.stage = 2) ∧ kindP b = 1 ∧ handleF s b now = firstF s b
def Hs3 (s : Fw) (b : By) (now : Int) : Prop := s.role = 2 ∧ (s.stage = 2 ∨ s.stage = 4) ∧ kindP b = 3 ∧ s.replay < countP b ∧ (s.stage = 4 → nonceP b = s.other) ∧ rightF b (keysF s (nonceP b)).c.1 = true ∧
 ∃ g, openG b (keysF s (nonceP b)).w.1 = some g ∧ handleF s b now = (s.third b g, [signedF (keysF s (nonceP b)).c.1 4 (countP b) (zv 16).1 []], 0)
theorem handleF_ok {s : Fw} {b : By} {now : Int} (h : (handleF s b now).2.2 = 0) : checkedF s now = 0 ∧ parseE b = 0 ∧ (Hs2 s b now ∨ Hs4 s b now ∨ Hs1 s b now ∨ Hs3 s b now) := by
 unfold Hs2 Hs4 Hs1 Hs3
 unfold handleF at h ⊢
 by_cases q : checkedF s now ≠ 0
 ·rw [if_pos q] at h; exact absurd h q
 by_cases q2 : parseE b ≠ 0
 ·rw [if_neg q, if_pos q2] at h; exact absurd h q2
 rw [if_neg q, if_neg q2] at h
 rw [if_neg q, if_neg q2]
 refine ⟨by omega, by omega, ?_⟩
 by_cases c1 : s.role = 1 ∧ s.stage = 1 ∧ kindP b = 2
 ·rw [if_pos c1] at h
  rw [if_pos c1]
  unfold secondF at h ⊢
  by_cases e : secondE s b ≠ 0
  ·rw [if_pos e] at h; exact absurd h e
  rw [if_neg e]
  unfold secondE at e
  by_cases e1 : countP b ≠ s.replay
  ·rw [if_pos e1] at e; exact absurd (by decide) e
  rw [if_neg e1] at e
  by_cases e2 : rightF b (keysF s (nonceP b)).c.1 = false
  ·rw [if_pos e2] at e; exact absurd (by decide) e
  exact .inl ⟨c1.1, c1.2.1, c1.2.2, by omega, by simpa using e2, rfl⟩
 rw [if_neg c1] at h
 rw [if_neg c1]
 by_cases c2 : s.role = 1 ∧ s.stage = 3 ∧ kindP b = 4
 ·rw [if_pos c2] at h
  rw [if_pos c2]
  unfold fourthF at h ⊢
  by_cases e : fourthE s b ≠ 0
  ·rw [if_pos e] at h; exact absurd h e
  rw [if_neg e]
  unfold fourthE at e
  by_cases e1 : countP b ≠ s.replay
  ·rw [if_pos e1] at e; exact absurd (by decide) e
  rw [if_neg e1] at e
  by_cases e2 : rightF b s.pair.c.1 = false
  ·rw [if_pos e2] at e; exact absurd (by decide) e
  exact .inr (.inl ⟨c2.1, c2.2.1, c2.2.2, by omega, by simpa using e2, rfl⟩)
 rw [if_neg c2] at h
 rw [if_neg c2]
 by_cases c3 : s.role = 2 ∧ (s.stage = 0 ∨ s.stage = 2) ∧ kindP b = 1
 ·rw [if_pos c3]
  exact .inr (.inr (.inl ⟨c3.1, c3.2.1, c3.2.2, rfl⟩))
 rw [if_neg c3] at h
 rw [if_neg c3]
 by_cases c4 : s.role = 2 ∧ (s.stage = 2 ∨ s.stage = 4) ∧ kindP b = 3
 ·rw [if_pos c4] at h
  rw [if_pos c4]
  unfold thirdF at h ⊢
  by_cases e : thirdE s b ≠ 0
  ·rw [if_pos e] at h; exact absurd h e
  rw [if_neg e]
  unfold thirdE at e
  by_cases e1 : countP b ≤ s.replay
  ·rw [if_pos e1] at e; exact absurd (by decide) e
  rw [if_neg e1] at e
  by_cases e2 : (s.stage = 4 ∧ nonceP b ≠ s.other) ∨ rightF b (keysF s (nonceP b)).c.1 = false
  ·rw [if_pos e2] at e; exact absurd (by decide) e
  rw [if_neg e2] at e
  by_cases e3 : openG b (keysF s (nonceP b)).w.1 = none
  ·rw [if_pos e3] at e; exact absurd (by decide) e
  obtain ⟨g, hg⟩ := Option.ne_none_iff_exists'.1 e3
  refine .inr (.inr (.inr ⟨c4.1, c4.2.1, c4.2.2, by omega, fun h4 => Classical.byContradiction fun hn => e2 (.inl ⟨h4, hn⟩), ?_, g, hg, by rw [hg]; rfl⟩))
  cases hr : rightF b (keysF s (nonceP b)).c.1 with
  | true => rfl
  | false => exact absurd (.inr hr) e2
 ·rw [if_neg c4] at h; exact absurd h (by decide)
theorem parse_facts {b : By} (h : parseE b = 0) : 1 ≤ kindP b ∧ kindP b ≤ 4 ∧ countP b < 4611686018427387904 := by
 unfold parseE at h
 split at h
 ·exact absurd h (by decide)
 ·split at h
  ·exact absurd h (by decide)
  ·rename_i q
   have q : oddP b = false := by simpa using q
   unfold oddP at q
   simp only [Bool.or_eq_false_iff, decide_eq_false_iff_not] at q
   obtain ⟨⟨⟨⟨⟨⟨q1, q2⟩, q3⟩, _⟩, _⟩, _⟩, _⟩ := q
   omega
theorem wI_nn {m : Nat} (x : BitVec m) : 0 ≤ wI x := by unfold wI; omega
theorem numLE_nn : ∀ l : By, 0 ≤ numLE l
 | [] => Int.le_refl _
 | x :: l => by have := numLE_nn l; have := wI_nn x; unfold numLE; omega
theorem countP_nn (b : By) : 0 ≤ countP b := numLE_nn _
structure GoodA (s : Fw) : Prop where
 role : s.role = 1
 ne : s.own ≠ s.peer
 inst : s.inst = oneI (s.stage == 4)
 gid : s.gid = 2 ∨ s.gid = 3
 st : (s.stage = 0 ∧ s.replay = 0 ∧ s.tries = 0 ∧ s.due = 0 ∧ s.other = zv 16 ∧ s.pair = ks0) ∨
  (s.stage = 1 ∧ s.replay = s.tries ∧ 1 ≤ s.tries ∧ s.tries ≤ 4 ∧ 1 ≤ s.due ∧ s.due ≤ 1099511727776 ∧ s.other = zv 16 ∧ s.pair = ks0) ∨
  (s.stage = 3 ∧ s.replay ≤ 4 + s.tries ∧ 1 ≤ s.replay ∧ 1 ≤ s.tries ∧ s.tries ≤ 4 ∧ 1 ≤ s.due ∧ s.due ≤ 1099511727776 ∧ s.pair = keysF s s.other) ∨
  (s.stage = 4 ∧ 1 ≤ s.replay ∧ s.replay ≤ 8 ∧ s.tries = 0 ∧ s.due = 0 ∧ s.pair = keysF s s.other) ∨
  (s.stage = 5 ∧ 1 ≤ s.replay ∧ s.replay ≤ 8 ∧ s.tries = 0 ∧ s.due = 0 ∧ s.other = zv 16 ∧ s.pair = ks0)
structure GoodS (s : Fw) : Prop where
 role : s.role = 2
 ne : s.own ≠ s.peer
 inst : s.inst = oneI (s.stage == 4)
 tries : s.tries = 0
 due : s.due = 0
 st : (s.stage = 0 ∧ s.replay = 0 ∧ s.gid = 0 ∧ s.gkey = zv 16 ∧ s.other = zv 16 ∧ s.pair = ks0) ∨
  (s.stage = 2 ∧ s.replay = 0 ∧ s.gid = 0 ∧ s.gkey = zv 16 ∧ s.pair = keysF s s.other) ∨
  (s.stage = 4 ∧ 0 ≤ s.replay ∧ s.replay < 4611686018427387904 ∧ (s.gid = 2 ∨ s.gid = 3) ∧ s.pair = keysF s s.other)
theorem GoodA.check {s : Fw} (h : GoodA s) : checkB s = true := by
 obtain ⟨h1, h2, h3, h4, h5⟩ := h
 have hg : gidB s = true := by unfold gidB; rcases h4 with h4 | h4 <;> simp [h4]
 unfold checkB validF
 rw [if_pos h1]
 have hv : validAuthF s = true ∧ (needsB s = true → s.pair = keysF s s.other) := by
  unfold validAuthF badA1 badA2 waitsB keyedB idleB freshS needsB oneI
  rcases h5 with ⟨a, b⟩ | ⟨a, b⟩ | ⟨a, b⟩ | ⟨a, b⟩ | ⟨a, b⟩ <;> simp [a, b, hg] <;> (try omega)
 rw [hv.1]
 simp only [h2, decide_false, Bool.not_false, Bool.true_and, h3, beq_self_eq_true]
 cases hn : needsB s with
 | false => rfl
 | true => simp [← hv.2 hn]
theorem GoodS.check {s : Fw} (h : GoodS s) : checkB s = true := by
 obtain ⟨h1, h2, h3, h4, h5, h6⟩ := h
 unfold checkB validF
 rw [if_neg (by omega), if_pos h1]
 have hv : validSupF s = true ∧ (needsB s = true → s.pair = keysF s s.other) := by
  unfold validSupF badS1 badS2 doneB gidB idleB freshS needsB
  rcases h6 with ⟨a, b⟩ | ⟨a, b⟩ | ⟨a, b⟩ <;> simp [a, b, h4, h5] <;> (try omega)
 rw [hv.1]
 simp only [h2, decide_false, Bool.not_false, Bool.true_and, h3, beq_self_eq_true]
 cases hn : needsB s with
 | false => rfl
 | true => simp [← hv.2 hn]
theorem checked_time {s : Fw} {now : Int} (h : checkedF s now = 0) : 0 ≤ now ∧ now ≤ 1099511627776 := by
 unfold checkedF timeB at h
 split at h
 ·split at h
  ·rename_i q; simpa using q
  ·exact absurd h (by decide)
 ·exact absurd h (by decide)
theorem checked_yes {s : Fw} {now : Int} (h : checkB s = true) (h0 : 0 ≤ now) (h1 : now ≤ 1099511627776) : checkedF s now = 0 := by
 unfold checkedF timeB
 simp [h, h0, h1]
structure Kept (s t : Fw) : Prop where
 own : t.own = s.own
 peer : t.peer = s.peer
 master : t.master = s.master
 mine : t.mine = s.mine
 up : s.inst ≤ t.inst
 done : s.inst = 1 → t.pair = s.pair ∧ t.gid = s.gid ∧ t.gkey = s.gkey ∧ t.other = s.other ∧ s.replay ≤ t.replay
theorem Kept.refl (s : Fw) : Kept s s := ⟨rfl, rfl, rfl, rfl, Int.le_refl _, fun _ => ⟨rfl, rfl, rfl, rfl, Int.le_refl _⟩⟩
theorem GoodA.startF {s : Fw} {now : Int} (h : GoodA s) (he : (startF s now).2.2 = 0) : GoodA (startF s now).1 ∧ Kept s (Go.Proofs.Ytibncchobkaaiaa.startF s now).1 := by
 obtain ⟨h1, h2, h3, e⟩ := startF_ok he
 have ht := checked_time h1
 obtain ⟨k1, k2, k3, k4, k5⟩ := h
 rw [e]
 have hi : s.inst = 0 := by rw [k3, h3]; rfl
 refine ⟨⟨k1, k2, hi, k4, .inr (.inl ⟨rfl, rfl, (show (1:Int) ≤ 1 from by decide), (show (1:Int) ≤ 4 from by decide), ?_, ?_, ?_⟩)⟩, ⟨rfl, rfl, rfl, rfl, Int.le_refl _, fun q => absurd (hi.symm.trans q) (by decide)⟩⟩
 ·show 1 ≤ now + 100000; omega
 ·show now + 100000 ≤ 1099511727776; omega
 ·rcases k5 with c | c | c | c | c
  ·exact ⟨c.2.2.2.2.1, c.2.2.2.2.2⟩
  all_goals (exfalso; have := c.1; omega)
theorem GoodA.tickF {s : Fw} {now : Int} (h : GoodA s) (he : (tickF s now).2.2 = 0) : GoodA (tickF s now).1 ∧ Kept s (Go.Proofs.Ytibncchobkaaiaa.tickF s now).1 := by
 obtain ⟨h1, c⟩ := tickF_ok he
 have ht := checked_time h1
 have h' := h
 obtain ⟨k1, k2, k3, k4, k5⟩ := h
 rcases c with ⟨_, e⟩ | ⟨q, q4, e⟩ | ⟨q, q4, e⟩ <;> rw [e]
 ·exact ⟨h', Kept.refl s⟩
 ·have hst : s.stage = 1 ∨ s.stage = 3 := by omega
  have hi : s.inst = 0 := by rw [k3]; rcases hst with c | c <;> rw [c] <;> rfl
  refine ⟨⟨k1, k2, hi, k4, .inr (.inr (.inr (.inr ⟨rfl, ?_, ?_, rfl, rfl, rfl, rfl⟩)))⟩, ⟨rfl, rfl, rfl, rfl, Int.le_refl _, fun q => absurd (hi.symm.trans q) (by decide)⟩⟩
  ·show 1 ≤ s.replay; omega
  ·show s.replay ≤ 8; omega
 ·have hst : s.stage = 1 ∨ s.stage = 3 := by omega
  have hi : s.inst = 0 := by rw [k3]; rcases hst with c | c <;> rw [c] <;> rfl
  refine ⟨⟨k1, k2, k3, k4, ?_⟩, ⟨rfl, rfl, rfl, rfl, Int.le_refl _, fun q => absurd (hi.symm.trans q) (by decide)⟩⟩
  rcases k5 with c | c | c | c | c
  ·exfalso; have := c.1; omega
  ·refine .inr (.inl ⟨c.1, ?_, ?_, ?_, ?_, ?_, c.2.2.2.2.2.2⟩)
   ·show s.replay + 1 = s.tries + 1; omega
   ·show 1 ≤ s.tries + 1; omega
   ·show s.tries + 1 ≤ 4; omega
   ·show 1 ≤ now + 100000; omega
   ·show now + 100000 ≤ 1099511727776; omega
  ·refine .inr (.inr (.inl ⟨c.1, ?_, ?_, ?_, ?_, ?_, ?_, ?_⟩))
   ·show s.replay + 1 ≤ 4 + (s.tries + 1); omega
   ·show 1 ≤ s.replay + 1; omega
   ·show 1 ≤ s.tries + 1; omega
   ·show s.tries + 1 ≤ 4; omega
   ·show 1 ≤ now + 100000; omega
   ·show now + 100000 ≤ 1099511727776; omega
   ·exact c.2.2.2.2.2.2.2
  ·exfalso; have := c.1; omega
  ·exfalso; have := c.1; omega
theorem GoodS.tickF {s : Fw} {now : Int} (h : GoodS s) (h1 : checkedF s now = 0) : tickF s now = (s, [], 0) := tickF_still h1 (.inl h.due)
theorem GoodA.handleF {s : Fw} {b : By} {now : Int} (h : GoodA s) (he : (handleF s b now).2.2 = 0) : GoodA (handleF s b now).1 ∧ Kept s (Go.Proofs.Ytibncchobkaaiaa.handleF s b now).1 := by
 obtain ⟨h1, hp, c⟩ := handleF_ok he
 have ht := checked_time h1
 obtain ⟨k1, k2, k3, k4, k5⟩ := h
 rcases c with ⟨c1, c2, c3, c4, c5, e⟩ | ⟨c1, c2, c3, c4, c5, e⟩ | ⟨c1, _⟩ | ⟨c1, _⟩
 ·rw [e]
  have hi : s.inst = 0 := by rw [k3, c2]; rfl
  refine ⟨⟨k1, k2, hi, k4, .inr (.inr (.inl ⟨rfl, ?_, ?_, (show (1:Int) ≤ 1 from by decide), (show (1:Int) ≤ 4 from by decide), ?_, ?_, rfl⟩))⟩, ⟨rfl, rfl, rfl, rfl, Int.le_refl _, fun q => absurd (hi.symm.trans q) (by decide)⟩⟩
  ·show s.replay + 1 ≤ 4 + 1; omega
  ·show 1 ≤ s.replay + 1; omega
  ·show 1 ≤ now + 100000; omega
  ·show now + 100000 ≤ 1099511727776; omega
 ·rw [e]
  have hi : s.inst = 0 := by rw [k3, c2]; rfl
  refine ⟨⟨k1, k2, rfl, k4, .inr (.inr (.inr (.inl ⟨rfl, ?_, ?_, rfl, rfl, ?_⟩)))⟩, ⟨rfl, rfl, rfl, rfl, by show s.inst ≤ 1; omega, fun q => absurd (hi.symm.trans q) (by decide)⟩⟩
  ·show 1 ≤ s.replay; omega
  ·show s.replay ≤ 8; omega
  ·rcases k5 with c | c | c | c | c
   ·exfalso; have := c.1; omega
   ·exfalso; have := c.1; omega
   ·exact c.2.2.2.2.2.2.2
   ·exfalso; have := c.1; omega
   ·exfalso; have := c.1; omega
 ·exfalso; omega
 ·exfalso; omega
theorem GoodS.handleF {s : Fw} {b : By} {now : Int} (h : GoodS s) (he : (handleF s b now).2.2 = 0) : GoodS (handleF s b now).1 ∧ Kept s (Go.Proofs.Ytibncchobkaaiaa.handleF s b now).1 := by
 obtain ⟨h1, hp, c⟩ := handleF_ok he
 have ht := checked_time h1
 have hc := parse_facts hp
 obtain ⟨k1, k2, k3, k4, k5, k6⟩ := h
 rcases c with ⟨c1, _⟩ | ⟨c1, _⟩ | ⟨c1, c2, c3, e⟩ | ⟨c1, c2, c3, c4, c5, c6, g, hg, e⟩
 ·exfalso; omega
 ·exfalso; omega
 ·rw [e]
  have hi : s.inst = 0 := by rw [k3]; rcases c2 with c | c <;> rw [c] <;> rfl
  have hz : s.replay = 0 ∧ s.gid = 0 ∧ s.gkey = zv 16 := by
   rcases k6 with c | c | c
   ·exact ⟨c.2.1, c.2.2.1, c.2.2.2.1⟩
   ·exact ⟨c.2.1, c.2.2.1, c.2.2.2.1⟩
   ·exfalso; have := c.1; omega
  exact ⟨⟨k1, k2, hi, k4, k5, .inr (.inl ⟨rfl, hz.1, hz.2.1, hz.2.2, rfl⟩)⟩, ⟨rfl, rfl, rfl, rfl, Int.le_refl _, fun q => absurd (hi.symm.trans q) (by decide)⟩⟩
 ·rw [e]
  by_cases h4 : s.stage = 4
  ·have e2 : s.third b g = { s with replay := countP b } := by unfold Fw.third; rw [if_pos h4]
   show GoodS (s.third b g) ∧ Kept s (s.third b g)
   rw [e2]
   have hd : (s.gid = 2 ∨ s.gid = 3) ∧ s.pair = keysF s s.other := by
    rcases k6 with c | c | c
    ·exfalso; have := c.1; omega
    ·exfalso; have := c.1; omega
    ·exact c.2.2.2
   exact ⟨⟨k1, k2, k3, k4, k5, .inr (.inr ⟨h4, countP_nn b, hc.2.2, hd.1, hd.2⟩)⟩, ⟨rfl, rfl, rfl, rfl, Int.le_refl _, fun _ => ⟨rfl, rfl, rfl, rfl, by show s.replay ≤ countP b; omega⟩⟩⟩
  ·have e2 : s.third b g = { s with stage := 4, other := nonceP b, pair := keysF s (nonceP b), gid := g.1, gkey := g.2, inst := 1, replay := countP b } := by unfold Fw.third; rw [if_neg h4]
   show GoodS (s.third b g) ∧ Kept s (s.third b g)
   rw [e2]
   have hi : s.inst = 0 := by rw [k3]; simp [h4, oneI]
   exact ⟨⟨k1, k2, rfl, k4, k5, .inr (.inr ⟨rfl, countP_nn b, hc.2.2, openM_gid hg, rfl⟩)⟩, ⟨rfl, rfl, rfl, rfl, by show s.inst ≤ 1; omega, fun q => absurd (hi.symm.trans q) (by decide)⟩⟩
end Go.Proofs.Ytibncchobkaaiaa
