/- Texts of this proof, put together: MsgC, Qui, ChA. -/
import Derived.Test.YtibncchobkaaiaaF13
import Derived.Test.YtibncchobkaaiaaF11
import Derived.Test.YtibncchobkaaiaaF12
import Derived.BigGuardPart
import Derived.Test.YtibncchobkaaiaaF1
namespace Go.Proofs.Ytibncchobkaaiaa
open Go.RowKit
theorem front_take (kind count : Int) (nonce : Vc 16) (data : By) (n : Nat) (h : n ≤ 25) : (frontF kind count nonce.1 data).take n = (frontF kind count nonce.1 []).take n := by
 have hn := nonce.2
 have e : ∀ d : By, frontF kind count nonce.1 d = (BitVec.ofInt 8 kind :: (le8 count ++ nonce.1)) ++ ([BitVec.ofInt 8 d.length, BitVec.ofInt 8 ((d.length : Int) / 256)] ++ d) := fun d => by simp [frontF]
 have hl : (BitVec.ofInt 8 kind :: (le8 count ++ nonce.1)).length = 25 := by simp [le8_len, hn]
 rw [e data, e [], List.take_append_of_le_length (by omega), List.take_append_of_le_length (by omega)]
theorem take_len9 (kind count : Int) (nonce : Vc 16) (data : By) (n : Nat) (h : n ≤ 25) : ((frontF kind count nonce.1 data).take n).length = n := by
 rw [List.length_take, frontF_len _ _ _ _ nonce.2]; omega
def NewAt (B : Nat) (v : Value) : Prop := ∀ b off n c, v = .slice (some ⟨b, off, none⟩) n c → B ≤ b
def Cov (kind count : Int) (nonce : Vc 16) (w : World) (e : Ending) (w' : World) : Prop := ∃ v, e = .returned (.tuple #[.agg ((coverN kind count nonce.1).1.map V8).toArray, v]) ∧ SlB w' v (coverA kind count nonce.1) ∧ Ext w w' ∧ NewAt w.heap.size v
set_option maxRecDepth 4000 in
set_option maxHeartbeats 1600000 in
theorem cover_any (kind count : Int) (hk : 0 ≤ kind) (hk1 : kind < 256) (nonce : Vc 16) (ad : Option Addr) (n c : Nat) (data : By) (hd : data.length ≤ 100000) (w : World) (hs : SlB w (.slice ad n c) data) :
  Calls Try.prog 63 #[.agg (cat (partsM kind count nonce ad n c)).toArray] w (Cov kind count nonce w) := by
 have H := kp (Loc.start w)
 have HS := kp hs
 have HB := kp (fun w hs => mbytes_any kind count hk hk1 nonce ad n c data hd w hs)
 have HT9 := kp (front_take kind count nonce data 9 (by decide))
 have HT25 := kp (front_take kind count nonce data 25 (by decide))
 have HFL := kp (frontF_len kind count nonce.1 data nonce.2)
 have HL9 := kp (take_len9 kind count nonce data 9 (by decide))
 have HFS := kp (front_short kind count nonce hd)
 clear hs hk hk1 hd
 go_enter Try.func63, Try.ntmps63
 go_wp2_with (first | ((with_reducible refine isBx 1 78 ?_); (refine L_box H rfl 78 _ rfl (cat (partsM kind count nonce ad n c)) rfl ?_); clear H; intro g1 w1 HGg1 HEg1 H; simp only [pA]) | ((with_reducible refine isAl 2 107 ?_); (refine L_alloc H rfl 107 rfl (cat ([Lf.v (zv 13)])) (fun _ _ => by kernel_rfl) ?_); clear H; intro g2 w2 HGg2 HEg2 H; simp only [pA]) | ((with_reducible refine isLd 78 ?_); (refine L_fa H rfl 78 _ rfl 1 rfl rfl Try.underlying78 rfl (by kernel_rfl) ?_); simp only [pA]) | (go_at_call 65; refine (HB.out _ (HS.out.ext H.out.1)).mono ?_; rintro e wa ⟨v, rfl, ho, hx⟩; have HO := kp ho; have HL2 := kp (show Lc w2 g2 107 _ from H.out.at 0 rfl); clear ho; replace H := kp (H.out.ext hx); have HXC := kp hx; clear hx))
 obtain ⟨av, cv, hvf⟩ := (SlB.of_owns HO.out).form
 subst hvf
 have hcv := kp (owns_cap HO.out)
 generalize hF : frontF kind count nonce.1 data = F at *
 generalize hm : F.length = m at *
 have hm27 : 27 ≤ m := by have := HFL.out; omega
 have hcm : m ≤ cv := hcv.out
 have hms : m ≤ 200000 := HFS.out.1
 have HSF := kp (SlB.of_owns HO.out)
 rw [← hm] at HSF
 obtain ⟨gb, ob, rfl⟩ := HSF.out.ne (by intro e; rw [e] at hm; simp at hm; omega)
 have HNW := kp (show w.heap.size ≤ gb from by have q1 := owns_block HO.out gb rfl; have q2 := HEg1.out.size; have q3 := HEg2.out.size; omega)
 clear HSF hm
 have HC := kp (show coverN kind count nonce.1 = fit 13 (F.take 9) by rw [HT9.out]; rfl)
 have HA := kp (show coverA kind count nonce.1 = F.take 25 by rw [HT25.out]; rfl)
 refine region_free H (tabS [(7, fun vQ _ => vQ = .slice (some ⟨g2, 0, none⟩) 13 13), (8, fun vQ _ => vQ = .slice (some ⟨gb, ob, none⟩) m cv), (9, fun vQ _ => vQ = .slice (some ⟨gb, ob, none⟩) 9 cv)]) [] (tabS_out _ _ (by simp only [List.forall_mem_cons, mono_eqO, true_and]; simp)) 3 (by kernel_rfl) (by kernel_rfl) (by kernel_rfl) (by kernel_rfl) [] [] rfl rfl (by decide) (by decide) (by decide) trivial ?_
 simp only [List.take_succ_cons, List.take_zero]
 refine ⟨fun w_ o_ S_ => ?_, fun v7 => ?_⟩
 ·clear S_
  clear o_
  go_wp2_with fail
  exact kso
 simp only [pA]
 refine ⟨fun w_ o_ S_ => ?_, fun v8 => ?_⟩
 ·clear S_
  clear o_
  go_wp2_with fail
  exact kso
 simp only [pA]
 refine ⟨fun w_ o_ S_ => ?_, fun v9 => ?_⟩
 ·obtain rfl : v8 = .slice (some ⟨gb, ob, none⟩) m cv := hsR S_ 8 rfl
  clear S_ o_
  go_wp2_with fail
  exact kso
 simp only [pA]
 clear H
 intro wb HOX H hfin
 obtain rfl : v7 = .slice (some ⟨g2, 0, none⟩) 13 13 := hfin 7 (by decide)
 obtain rfl : v8 = .slice (some ⟨gb, ob, none⟩) m cv := hfin 8 (by decide)
 obtain rfl : v9 = .slice (some ⟨gb, ob, none⟩) 9 cv := hfin 9 (by decide)
 clear hfin
 simp only [List.drop_succ_cons, List.drop_zero]
 simp only [applyS] at H
 have HXN := kp (HOX.out.ext (Ext.refl wa) (fun g hg => by cases hg))
 have HOB := kp (owns_ext HO.out HXN.out)
 have HL2B := kp (HL2.out.ext (HXC.out.trans HXN.out))
 have HS9 := kp (show SlB wb (.slice (some ⟨gb, ob, none⟩) 9 cv) (F.take 9) from (SlB.of_owns HOB.out).take (by have := HFL.out; have h2 := (owns_len HOB.out); simp at h2; omega) (fun e => by cases e))
 go_wp2_with ((with_reducible show wpList _ _ _ (Oper.mk _ (Op.call { callee := .builtin .copy, args := _, argTypes := _ }) _ _ _ _ :: _) _ _); (refine L_cpV H rfl _ _ 33 33 rfl 5 Try.underlying33 size5 0 rfl _ _ _ rfl _ rfl _ rfl _ rfl _ (HS9.out) ([Lf.v (fit 13 (F.take 9))]) rfl ?_; clear H; intro wc HWwc H; simp only [szA] at H); simp only [pA])
 have HOC := kp (owns_wroteT HOB.out HWwc.out HL2B.out (show 5 ≠ 107 from by decide))
 refine region_free H (tabS [(11, fun vQ _ => vQ = .agg ((fit 13 (F.take 9)).1.map V8).toArray), (12, fun vQ _ => vQ = .slice (some ⟨gb, ob, none⟩) m cv), (13, fun vQ _ => vQ = .slice (some ⟨gb, ob, none⟩) 25 cv), (3, fun vQ _ => vQ = .slice (some ⟨gb, ob, none⟩) 25 cv)]) [] (tabS_out _ _ (by simp only [List.forall_mem_cons, mono_eqO, true_and]; simp)) 5 (by kernel_rfl) (by kernel_rfl) (by kernel_rfl) (by kernel_rfl) [] [] rfl rfl (by decide) (by decide) (by decide) trivial ?_
 simp only [List.take_succ_cons, List.take_zero]
 refine ⟨fun w_ o_ S_ => ?_, fun v11 => ?_⟩
 ·clear S_
  have H := kp (kK [0, 1] H o_)
  have HOX := kp o_
  clear o_
  go_wp2_with ((with_reducible refine isLd 107 ?_); (refine L_fv H rfl 107 _ rfl 0 rfl _ rfl _ rfl rfl Try.underlying107 rfl (by kernel_rfl) ?_); simp only [pA])
  exact kso
 simp only [pA]
 refine ⟨fun w_ o_ S_ => ?_, fun v12 => ?_⟩
 ·clear S_
  clear o_
  go_wp2_with fail
  exact kso
 simp only [pA]
 refine ⟨fun w_ o_ S_ => ?_, fun v13 => ?_⟩
 ·obtain rfl : v12 = .slice (some ⟨gb, ob, none⟩) m cv := hsR S_ 12 rfl
  clear S_ o_
  go_wp2_with fail
  exact kso
 simp only [pA]
 refine ⟨fun wn3 hon3 hSn3 => ?_, fun _ => ?_⟩
 ·obtain rfl : v11 = .agg ((fit 13 (F.take 9)).1.map V8).toArray := hSn3 11 (by decide) (by decide)
  clear hSn3
  have H := kp (kK [0, 1] H hon3)
  have HOX := kp hon3
  clear hon3
  go_wp2_with ((with_reducible refine isSt 107 ?_); (refine L_sn H rfl rfl 107 _ _ rfl 0 rfl rfl rfl rfl (by kernel_rfl) ?_))
  exact ⟨rfl, undef, rfl, (fun d hd => by cases hd), Ext.refl _⟩
 refine ⟨fun w_ o_ S_ => ?_, fun v3 => ?_⟩
 ·obtain rfl : v13 = .slice (some ⟨gb, ob, none⟩) 25 cv := hsR S_ 13 rfl
  clear S_ o_
  go_wp2_with fail
  exact kso
 simp only [pA]
 clear H
 intro wd HOX H hfin
 obtain rfl : v11 = .agg ((fit 13 (F.take 9)).1.map V8).toArray := hfin 11 (by decide)
 obtain rfl : v12 = .slice (some ⟨gb, ob, none⟩) m cv := hfin 12 (by decide)
 obtain rfl : v13 = .slice (some ⟨gb, ob, none⟩) 25 cv := hfin 13 (by decide)
 obtain rfl : v3 = .slice (some ⟨gb, ob, none⟩) 25 cv := hfin 3 (by decide)
 clear hfin
 simp only [List.drop_succ_cons, List.drop_zero]
 simp only [applyS] at H
 have HXN := kp (HOX.out.ext (Ext.refl wc) (fun g hg => by cases hg))
 have HS25 := kp (show SlB wd (.slice (some ⟨gb, ob, none⟩) 25 cv) (F.take 25) from (SlB.of_owns (owns_ext HOC.out HXN.out)).take (by have := HFL.out; have h2 := (owns_len HOC.out); simp at h2; omega) (fun e => by cases e))
 go_wp2_with fail
 (exact ret_f2 H Try.results63 0 rfl rfl _ rfl Try.underlying107 rfl (by kernel_rfl) rfl (⟨_, by rw [HC.out]; rfl, by rw [HA.out]; exact HS25.out, H.out.1, fun b o n c e => by cases e; exact HNW.out⟩))
def Own25 (B : Nat) (E : By) (v : Value) (w : World) : Prop := ∃ ad c, v = .slice ad 25 c ∧ w.ownsRow B 5 1 (.slice ad 25 c) E.length (E.map V8)
def Tup25 (B : Nat) (E : By) (v : Value) (w : World) : Prop := ∃ ad c, v = .tuple #[.slice ad 25 c, .int .i64 0] ∧ w.ownsRow B 5 1 (.slice ad 25 c) E.length (E.map V8)
def OwnB (B : Nat) (E : By) (v : Value) (w : World) : Prop := w.ownsRow B 5 1 v E.length (E.map V8)
theorem lt1 {g B : Nat} (h : g < B) : ∀ x ∈ [g], x < B := fun x hx => by obtain rfl := List.mem_singleton.1 hx; exact h
theorem mono_Own25 {g B : Nat} (E : By) (h : Kp (g < B)) : MonoO [g] (Own25 B E) := fun _ _ _ ⟨ad, c, h1, h2⟩ ho => ⟨ad, c, h1, owns_out h2 ho (lt1 h.out)⟩
theorem mono_Tup25 {g B : Nat} (E : By) (h : Kp (g < B)) : MonoO [g] (Tup25 B E) := fun _ _ _ ⟨ad, c, h1, h2⟩ ho => ⟨ad, c, h1, owns_out h2 ho (lt1 h.out)⟩
theorem mono_OwnB {g B : Nat} (E : By) (h : Kp (g < B)) : MonoO [g] (OwnB B E) := fun _ _ _ h1 ho => owns_out h1 ho (lt1 h.out)
def NewB (B T n : Nat) (cs : List Value) (v : Value) (w : World) : Prop := ∃ g, v = .slice (some ⟨g, 0, none⟩) n n ∧ Lc w g T cs ∧ B ≤ g
theorem mono_NewB {g B : Nat} (T n : Nat) (cs : List Value) (h : Kp (g < B)) : MonoO [g] (NewB B T n cs) := fun _ _ _ ⟨g', h1, h2, h3⟩ ho => ⟨g', h1, ho.lc h2 (by rw [List.mem_singleton]; have := h.out; omega), h3⟩
def MsgAt (B : Nat) (kind count : Int) (nonce : Vc 16) (E : By) (cs : List Value) (w : World) : Prop := ∃ ad c, cs = cat (partsM kind count nonce ad 25 c) ∧ w.ownsRow B 5 1 (.slice ad 25 c) E.length (E.map V8)
theorem mono_MsgAt {g B : Nat} (kind count : Int) (nonce : Vc 16) (E : By) (h : Kp (g < B)) : ∀ cs w w', MsgAt B kind count nonce E cs w → Out [g] w w' → MsgAt B kind count nonce E cs w' := fun _ _ _ ⟨ad, c, h1, h2⟩ ho => ⟨ad, c, h1, owns_out h2 ho (lt1 h.out)⟩
theorem SlB.past {w w1 w2 : World} {v : Value} {l : By} {g : Nat} (h : SlB w v l) (hx : Ext w w1) (hw : Wrote w1 w2 g) (hg : w.heap.size ≤ g) : SlB w2 v l := by
 obtain ⟨ds, rfl⟩ := hw
 rcases h with h | ⟨b, off, c, h1, h2, h3⟩
 ·exact .inl h
 ·refine .inr ⟨b, off, c, h1, by rw [setRow_size]; exact Nat.lt_of_lt_of_le h2 hx.size, fun j x hj => (cell_setRow (by omega)).trans ((hx.cell h2).trans (h3 j x hj))⟩
theorem SlB.outG {w w' : World} {v : Value} {l : By} {g : Nat} (h : SlB w v l) (ho : Out [g] w w') (hne : ∀ b off n c, v = .slice (some ⟨b, off, none⟩) n c → b ≠ g) : SlB w' v l := by
 rcases h with h | ⟨b, off, c, h1, h2, h3⟩
 ·exact .inl h
 ·refine .inr ⟨b, off, c, h1, Nat.lt_of_lt_of_le h2 ho.size, fun j x hj => ?_⟩
  have hb := ho.block b h2 (by rw [List.mem_singleton]; exact hne b off _ c h1)
  have h5 := h3 j x hj
  simpa only [World.cell?, hb] using h5
def Wrp (kind count : Int) (nonce : Vc 16) (E : By) (w : World) (e : Ending) (w' : World) : Prop := ∃ ad c, e = .returned (.agg (cat (partsM kind count nonce ad 25 c)).toArray) ∧ SlB w' (.slice ad 25 c) E ∧ Ext w w' ∧ NewAt w.heap.size (.slice ad 25 c)
theorem wrapF_len (k : By) (kind count : Int) (nonce : By) (gid : Int) (gkey : Vc 16) : (wrapF k kind count nonce gid gkey.1).length = 25 := by
 unfold wrapF; rw [sealF_len]; simp [groupB, gkey.2]
theorem set_msg (kind count : Int) (nonce : Vc 16) (ad : Option Addr) (c : Nat) : (cat (partsM kind count nonce none 0 0)).set 18 (.slice ad 25 c) = cat (partsM kind count nonce ad 25 c) := by
 have hn := nonce.2
 simp only [partsM, cat, Lf.i, Lf.v, Lf.s, List.cons_append, List.nil_append, List.set_cons_succ]
 rw [List.set_append_right _ _ (by simp [hn])]
 simp [hn]
set_option maxRecDepth 4000 in
set_option maxHeartbeats 1600000 in
theorem wrap_any (k : Vc 16) (kind count : Int) (hk : 0 ≤ kind) (hk1 : kind < 256) (nonce : Vc 16) (gid : Int) (gkey : Vc 16) (w : World) :
  Calls Try.prog 46 #[.agg (cat (partsM kind count nonce none 0 0)).toArray, .agg (k.1.map V8).toArray, .agg (cat (partsG gid gkey)).toArray] w (Wrp kind count nonce (wrapF k.1 kind count nonce.1 gid gkey.1) w) := by
 have H := kp (Loc.start w)
 have HCV := kp (fun w => cover_any kind count hk hk1 nonce none 0 0 [] (by decide) w (SlB.nil w))
 have HAL := kp (show (coverA kind count nonce.1).length ≤ 256 by unfold coverA; rw [List.length_take]; omega)
 have HGL := kp (show (groupB gid gkey.1).length = 17 by simp [groupB, gkey.2])
 have HSE := kp (fun va vb w h1 h2 h3 => seal_ok k.1 (coverN kind count nonce.1).1 k.2 (coverN kind count nonce.1).2 va vb (coverA kind count nonce.1) (groupB gid gkey.1) HAL.out (by rw [HGL.out]; decide) w h1 h2 h3)
 have HEL := kp (wrapF_len k.1 kind count nonce.1 gid gkey)
 have HEE := kp (show sealF k.1 (coverN kind count nonce.1).1 (coverA kind count nonce.1) (groupB gid gkey.1) = wrapF k.1 kind count nonce.1 gid gkey.1 from rfl)
 have HVJ := kp (V8_ofInt gid)
 have HGB := kp (show groupB gid gkey.1 = [BitVec.ofInt 8 gid] ++ gkey.1 from rfl)
 clear hk hk1
 generalize wrapF k.1 kind count nonce.1 gid gkey.1 = E at *
 go_enter Try.func46, Try.ntmps46
 go_wp2_with (first | ((with_reducible refine isBx 3 78 ?_); (refine L_box H rfl 78 _ rfl (cat (partsM kind count nonce none 0 0)) rfl ?_); clear H; intro g3 w3 HGg3 HEg3 H; simp only [pA]) | ((with_reducible refine isBx 4 25 ?_); (refine L_box H rfl 25 _ rfl (cat ([Lf.v k])) rfl ?_); clear H; intro g4 w4 HGg4 HEg4 H; simp only [pA]) | ((with_reducible refine isBx 5 30 ?_); (refine L_box H rfl 30 _ rfl (cat (partsG gid gkey)) rfl ?_); clear H; intro g5 w5 HGg5 HEg5 H; simp only [pA]) | ((with_reducible refine isAl 6 78 ?_); (refine L_alloc H rfl 78 rfl (cat (partsM 0 0 (zv 16) none 0 0)) (fun _ _ => by kernel_rfl) ?_); clear H; intro g6 w6 HGg6 HEg6 H; simp only [pA]) | ((with_reducible refine isLd 78 ?_); (refine L_fa H rfl 78 _ rfl 3 rfl rfl Try.underlying78 rfl (by kernel_rfl) ?_); simp only [pA]) | (go_at_call 63; have HLT3 := kp (show g3 < w6.heap.size from H.out.lt 3 rfl); have HLT6 := kp (show g6 < w6.heap.size from H.out.lt 0 rfl); refine (HCV.out _).mono ?_; rintro e wa ⟨va, rfl, hs, hx, hn⟩; have HSA := kp hs; have HNA := kp hn; clear hs hn; replace H := kp (H.out.ext hx); have HXC := kp hx; clear hx) | ((with_reducible refine isAl 7 107 ?_); (refine L_alloc H rfl 107 rfl (cat ([Lf.v (zv 13)])) (fun _ _ => by kernel_rfl) ?_); clear H; intro g7 w7 HGg7 HEg7 H; simp only [pA]) | ((with_reducible refine isSt 107 ?_); (refine L_sv H rfl rfl 107 _ _ rfl 0 rfl _ rfl _ rfl (Lf.v (coverN kind count nonce.1)) rfl rfl rfl (by kernel_rfl) ([Lf.v (coverN kind count nonce.1)]) rfl ?_; clear H; intro w8 HWw8 H; simp only [szA] at H)))
 obtain ⟨aa, ca, hvf⟩ := HSA.out.form
 have HSW := kp (HSA.out.past HEg7.out HWw8.out (by have := HGg7.out; omega))
 have HA3 := kp (show ∀ b off n c, va = .slice (some ⟨b, off, none⟩) n c → b ≠ g3 from fun b o n c e => by have q1 := HNA.out b o n c e; have q2 := HLT3.out; omega)
 have HB3 := kp (show g3 < w8.heap.size by have q2 := HLT3.out; have q3 := HXC.out.size; have q4 := HEg7.out.size; have q5 := HWw8.out.size; omega)
 have HB6 := kp (show g6 < w8.heap.size by have q2 := HLT6.out; have q3 := HXC.out.size; have q4 := HEg7.out.size; have q5 := HWw8.out.size; omega)
 have HPT := kp (V8_ofInt gid)
 subst hvf
 refine region_freeV H (tabS [(15, fun vQ _ => vQ = .agg (k.1.map V8).toArray), (16, fun vQ _ => vQ = .agg ((coverN kind count nonce.1).1.map V8).toArray), (17, fun vQ _ => vQ = .slice aa (coverA kind count nonce.1).length ca), (18, fun vQ _ => vQ = .pointer (some ⟨g5, 0, none⟩)), (19, fun vQ _ => vQ = .int .i64 gid), (20, fun vQ _ => vQ = .int .u8 (gid % 256)), (21, fun vQ wQ => NewB w8.heap.size 5 1 ([BitVec.ofInt 8 gid].map V8) vQ wQ), (22, fun vQ _ => vQ = .pointer (some ⟨g5, 1, none⟩)), (23, fun vQ _ => vQ = .slice (some ⟨g5, 1, none⟩) 16 16), (24, fun vQ wQ => OwnB w8.heap.size (groupB gid gkey.1) vQ wQ), (25, fun vQ wQ => Tup25 w8.heap.size E vQ wQ), (14, fun vQ wQ => Tup25 w8.heap.size E vQ wQ), (26, fun vQ wQ => Own25 w8.heap.size E vQ wQ), (27, fun vQ _ => vQ = .int .i64 0), (28, fun vQ _ => vQ = .pointer (some ⟨g3, 18, none⟩))]) (fun _ cs w => MsgAt w8.heap.size kind count nonce E cs w) ⟨15, 4, g3, 78, cat (partsM kind count nonce none 0 0), []⟩ (mono_MsgAt _ _ _ _ HB3) (tabS_out _ _ (by simp only [List.forall_mem_cons, mono_eqO, true_and]; exact ⟨(mono_NewB _ _ _ HB3), (mono_OwnB _ HB3), (mono_Tup25 _ HB3), (mono_Tup25 _ HB3), (mono_Own25 _ HB3), by simp⟩)) 16 (by kernel_rfl) (by kernel_rfl) (by kernel_rfl) (by kernel_rfl) (show (15 : Nat) < 16 from by decide) rfl ?_
 simp only [List.take_succ_cons, List.take_zero]
 refine ⟨fun w_ o_ S_ => ?_, fun v15 => ?_⟩
 ·clear S_
  have H := kp (H.out.keep [0, 1, 2, 3] (St := [⟨15, 4, g3, 78, cat (partsM kind count nonce none 0 0), []⟩]) ⟨rfl, trivial⟩ o_ (by decide) (by kernel_rfl))
  have HOX := kp o_
  clear o_
  go_wp2_with ((with_reducible refine isLd 25 ?_); (refine L_fv H rfl 25 _ rfl 3 rfl _ rfl _ rfl rfl Try.underlying25 rfl (by kernel_rfl) ?_); simp only [pA])
  exact kso
 simp only [pA]
 refine ⟨fun w_ o_ S_ => ?_, fun v16 => ?_⟩
 ·clear S_
  have H := kp (H.out.keep [0, 1, 2, 3] (St := [⟨15, 4, g3, 78, cat (partsM kind count nonce none 0 0), []⟩]) ⟨rfl, trivial⟩ o_ (by decide) (by kernel_rfl))
  have HOX := kp o_
  clear o_
  go_wp2_with ((with_reducible refine isLd 107 ?_); (refine L_fv H rfl 107 _ rfl 0 rfl _ rfl _ rfl rfl Try.underlying107 rfl (by kernel_rfl) ?_); simp only [pA])
  exact kso
 simp only [pA]
 refine ⟨fun w_ o_ S_ => ?_, fun v17 => ?_⟩
 ·clear S_
  clear o_
  go_wp2_with fail
  exact kso
 simp only [pA]
 refine ⟨fun w_ o_ S_ => ?_, fun v18 => ?_⟩
 ·clear S_
  clear o_
  go_wp2_with fail
  exact kso
 simp only [pA]
 refine ⟨fun w_ o_ S_ => ?_, fun v19 => ?_⟩
 ·obtain rfl : v18 = .pointer (some ⟨g5, 0, none⟩) := hsR S_ 18 rfl
  clear S_
  have H := kp (H.out.keep [0, 1, 2, 3] (St := [⟨15, 4, g3, 78, cat (partsM kind count nonce none 0 0), []⟩]) ⟨rfl, trivial⟩ o_ (by decide) (by kernel_rfl))
  have HOX := kp o_
  clear o_
  go_wp2_with ((with_reducible refine isLd 3 ?_); (refine L_f1 H rfl 3 _ rfl 2 rfl _ rfl _ rfl _ rfl Try.underlying3 rfl ?_); simp only [pA])
  exact kso
 simp only [pA]
 refine ⟨fun w_ o_ S_ => ?_, fun v20 => ?_⟩
 ·obtain rfl : v19 = .int .i64 gid := hsR S_ 19 rfl
  clear S_ o_
  go_wp2_with fail
  exact kso
 simp only [pA]
 refine ⟨fun w_ o_ S_ => ?_, fun v21 => ?_⟩
 ·obtain rfl : v20 = .int .u8 (gid % 256) := hsR S_ 20 rfl
  clear S_
  have H := kp (H.out.keep [0, 1, 2, 3] (St := [⟨15, 4, g3, 78, cat (partsM kind count nonce none 0 0), []⟩]) ⟨rfl, trivial⟩ o_ (by decide) (by kernel_rfl))
  have HOX := kp o_
  clear o_
  go_wp2_with ((with_reducible show wpList _ _ _ (Oper.mk (some 21) (Op.buildSlice 33 _ _) _ _ _ _ :: _) _ _); (refine L_bs H (by kernel_rfl) 33 1 _ rfl (#[(0, .int .u8 (gid % 256))]) (by kernel_rfl) 5 ([.int .u8 (gid % 256)]) (fun _ => by kernel_rfl) ?_); clear H; intro g21 w21 HGg21 HEg21 H; simp only [pA])
  exact ⟨rfl, _, rfl, fun d hd => by cases hd; exact ⟨g21, rfl, (by show Lc w21 g21 _ [V8 (BitVec.ofInt 8 gid)]; rw [HPT.out]; exact H.out.at 0 rfl), (by have q1 := HGg21.out; have q2 := HOX.out.size; omega)⟩, HEg21.out⟩
 simp only [pA]
 refine ⟨fun w_ o_ S_ => ?_, fun v22 => ?_⟩
 ·clear S_
  clear o_
  go_wp2_with fail
  exact kso
 simp only [pA]
 refine ⟨fun w_ o_ S_ => ?_, fun v23 => ?_⟩
 ·obtain rfl : v22 = .pointer (some ⟨g5, 1, none⟩) := hsR S_ 22 rfl
  clear S_ o_
  go_wp2_with fail
  exact kso
 simp only [pA]
 refine ⟨fun w_ o_ S_ => ?_, fun v24 => ?_⟩
 ·have h21 := kp (show NewB w8.heap.size 5 1 ([BitVec.ofInt 8 gid].map V8) v21 w_ from hsR S_ 21 rfl)
  obtain rfl : v23 = .slice (some ⟨g5, 1, none⟩) 16 16 := hsR S_ 23 rfl
  clear S_
  have H := kp (H.out.keep [0, 1, 2, 3] (St := [⟨15, 4, g3, 78, cat (partsM kind count nonce none 0 0), []⟩]) ⟨rfl, trivial⟩ o_ (by decide) (by kernel_rfl))
  have HOX := kp o_
  clear o_
  obtain ⟨g21, rfl, hL, hb⟩ := h21.out
  have HLB := kp hL
  have HKN := kp gkey.2
  clear hL hb
  go_wp2_with (at_builtin; refine wpList_append_full rfl _ _ rfl HLB.out rfl rfl rfl (SlB_part H.out 2 rfl 1 1 rfl rfl 16) (by rw [HKN.out]; decide) (by rw [HKN.out]; simp) ?_; intro v2 w2 ho2 hx2; have HO2 := kp ho2; have HX2 := kp hx2; clear ho2 hx2; simp only [pA])
  exact ⟨rfl, _, rfl, fun d hd => by cases hd; exact owns_weak HO2.out HOX.out.size, HX2.out⟩
 simp only [pA]
 refine ⟨fun w_ o_ S_ => ?_, fun v25 => ?_⟩
 ·obtain rfl : v15 = .agg (k.1.map V8).toArray := hsR S_ 15 rfl
  obtain rfl : v16 = .agg ((coverN kind count nonce.1).1.map V8).toArray := hsR S_ 16 rfl
  obtain rfl : v17 = .slice aa (coverA kind count nonce.1).length ca := hsR S_ 17 rfl
  have h24 := kp (show OwnB w8.heap.size (groupB gid gkey.1) v24 w_ from hsR S_ 24 rfl)
  clear S_
  have H := kp (H.out.keep [0, 1, 2, 3] (St := [⟨15, 4, g3, 78, cat (partsM kind count nonce none 0 0), []⟩]) ⟨rfl, trivial⟩ o_ (by decide) (by kernel_rfl))
  have HOX := kp o_
  clear o_
  have HCO := kp (CapOk.of_owns h24.out)
  obtain ⟨a4, c4, hv4⟩ := (SlB.of_owns h24.out).form
  have HS4 := kp (SlB.of_owns h24.out)
  have HA4 := kp (HSW.out.outG HOX.out (fun b off n c e => HA3.out b off n c e))
  subst hv4
  clear h24
  go_wp2_with fail
  refine (HSE.out _ _ _ HA4.out HS4.out HCO.out).mono ?_
  rintro e w2 ⟨v, rfl, ho, hx⟩
  have HO2 := kp ho
  have HX2 := kp hx
  clear ho hx
  obtain ⟨a5, c5, hv5⟩ := (SlB.of_owns HO2.out).form
  rw [HEE.out, HEL.out] at hv5
  subst hv5
  rw [HEE.out] at HO2
  go_wp2_with fail
  exact ⟨rfl, _, rfl, fun d hd => by cases hd; exact ⟨a5, c5, rfl, owns_weak HO2.out HOX.out.size⟩, HX2.out⟩
 simp only [pA]
 refine ⟨fun w_ o_ S_ => ?_, fun v14 => ?_⟩
 ·have h25 := kp (show Tup25 w8.heap.size E v25 w_ from hsR S_ 25 rfl)
  clear S_ o_
  go_wp2_with fail
  exact ⟨rfl, _, rfl, fun d hd => by cases hd; exact h25.out, Ext.refl _⟩
 simp only [pA]
 refine ⟨fun w_ o_ S_ => ?_, fun v26 => ?_⟩
 ·have h14 := kp (show Tup25 w8.heap.size E v14 w_ from hsR S_ 14 rfl)
  clear S_
  have H := kp (H.out.keep [0, 1, 2, 3] (St := [⟨15, 4, g3, 78, cat (partsM kind count nonce none 0 0), []⟩]) ⟨rfl, trivial⟩ o_ (by decide) (by kernel_rfl))
  have HOX := kp o_
  clear o_
  obtain ⟨a5, c5, rfl, ho⟩ := h14.out
  have HO2 := kp ho
  clear ho h14
  go_wp2_with fail
  exact ⟨rfl, _, rfl, fun d hd => by cases hd; exact ⟨a5, c5, rfl, HO2.out⟩, Ext.refl _⟩
 simp only [pA]
 refine ⟨fun w_ o_ S_ => ?_, fun v27 => ?_⟩
 ·have h14 := kp (show Tup25 w8.heap.size E v14 w_ from hsR S_ 14 rfl)
  clear S_
  have H := kp (H.out.keep [0, 1, 2, 3] (St := [⟨15, 4, g3, 78, cat (partsM kind count nonce none 0 0), []⟩]) ⟨rfl, trivial⟩ o_ (by decide) (by kernel_rfl))
  have HOX := kp o_
  clear o_
  obtain ⟨a5, c5, rfl, ho⟩ := h14.out
  clear ho h14
  go_wp2_with fail
  exact kso
 simp only [pA]
 refine ⟨fun w_ o_ S_ => ?_, fun v28 => ?_⟩
 ·clear S_
  clear o_
  go_wp2_with fail
  exact kso
 simp only [pA]
 refine ⟨⟨rfl, rfl, fun ws15 hos15 hSs15 hLs15 => ?_⟩, ?_⟩
 ·have h26 := kp (show Own25 w8.heap.size E v26 ws15 from hSs15 26 (by decide) (by decide))
  obtain rfl : v28 = .pointer (some ⟨g3, 18, none⟩) := hSs15 28 (by decide) (by decide)
  clear hSs15
  have HOX := kp hos15
  clear hos15
  obtain ⟨a5, c5, rfl, ho⟩ := h26.out
  exact ⟨cat (partsM kind count nonce a5 25 c5), ⟨a5, c5, rfl, owns_wrote ho ⟨_, rfl⟩ HB3.out⟩, run_stoC 33 _ _ rfl rfl rfl hLs15 (by kernel_rfl) (by rw [cat_len]; show 18 < 19; decide) (set_msg _ _ _ _ _) rfl⟩
 clear H
 intro w9 css HOX HR H hfin
 obtain rfl : v15 = .agg (k.1.map V8).toArray := hfin 15 (by decide)
 obtain rfl : v16 = .agg ((coverN kind count nonce.1).1.map V8).toArray := hfin 16 (by decide)
 obtain rfl : v17 = .slice aa (coverA kind count nonce.1).length ca := hfin 17 (by decide)
 obtain rfl : v18 = .pointer (some ⟨g5, 0, none⟩) := hfin 18 (by decide)
 obtain rfl : v19 = .int .i64 gid := hfin 19 (by decide)
 obtain rfl : v20 = .int .u8 (gid % 256) := hfin 20 (by decide)
 have F21 := kp (show NewB w8.heap.size 5 1 ([BitVec.ofInt 8 gid].map V8) v21 w9 from hfin 21 (by decide))
 obtain rfl : v22 = .pointer (some ⟨g5, 1, none⟩) := hfin 22 (by decide)
 obtain rfl : v23 = .slice (some ⟨g5, 1, none⟩) 16 16 := hfin 23 (by decide)
 have F24 := kp (show OwnB w8.heap.size (groupB gid gkey.1) v24 w9 from hfin 24 (by decide))
 have F25 := kp (show Tup25 w8.heap.size E v25 w9 from hfin 25 (by decide))
 have F14 := kp (show Tup25 w8.heap.size E v14 w9 from hfin 14 (by decide))
 have F26 := kp (show Own25 w8.heap.size E v26 w9 from hfin 26 (by decide))
 obtain rfl : v27 = .int .i64 0 := hfin 27 (by decide)
 obtain rfl : v28 = .pointer (some ⟨g3, 18, none⟩) := hfin 28 (by decide)
 clear hfin
 simp only [List.drop_succ_cons, List.drop_zero]
 try dsimp only at H
 try dsimp only at HR
 try simp only [ssA, szA] at H
 obtain ⟨a5, c5, hcs, ho⟩ := HR.out
 have HO5 := kp ho
 clear ho HR
 subst hcs
 go_wp2_with (first | ((with_reducible refine isLd 78 ?_); (refine L_fa H rfl 78 _ rfl 4 rfl rfl Try.underlying78 rfl (by kernel_rfl) ?_); simp only [pA]) | ((with_reducible refine isSt 78 ?_); (refine L_sa H rfl rfl 78 _ _ rfl 1 rfl rfl (partsM kind count nonce a5 25 c5) rfl rfl (by kernel_rfl) ?_; clear H; intro wz HWwz H; simp only [ssA, szA] at H)))
 (exact ret_f1 H Try.results46 1 rfl rfl Try.underlying78 rfl (by kernel_rfl) rfl (⟨a5, c5, rfl, SlB.of_owns (by have h6 := owns_wrote HO5.out HWwz.out HB6.out; exact h6), H.out.1, fun b off n c e => by have q1 := owns_block HO5.out b (by rw [e]; rfl); have q2 := HB3.out; have q3 := HGg3.out; omega⟩))
section
variable {P : Program}
theorem region_z {id : Nat} {Q : Exit → Act → World → Prop} {a : Act} {w0 w : World} {bs : List Bk} {l : List Oper} (H : Kp (Loc w0 w bs)) (n : Nat) (hm : P.follows .mixedOrders = true)
  (hB : flatB l.toArray n = true) (hT : topoB l.toArray (l.take n) = true) (hF : freshB l.toArray n 1000 100000 = true) (hN : n ≤ 1000) (hS : a.tmps.size ≤ 100000)
  (h : ∃ A, (∀ x0, wpQuiet P l.toArray (Cx w x0) (fun a' => a' = A) (l.take n) a) ∧ ∀ w', Kp (Ext w w') → Kp (Loc w0 w' bs) → wpList P l.toArray Q (l.drop n) A w') : (Code.region id l.toArray true).wp P Q a w := by
 obtain ⟨A, h1, h2⟩ := h
 exact region_f n hm hB hT hF hN hS ⟨A, h1, fun x => h2 _ (kp (Ext.more w x)) (kp (H.out.ext (Ext.more w x)))⟩
theorem cx_ext {W w' : World} {x0 : Xtra} (h : Cx W x0 w') : Ext W w' := (Ext.more _ _).trans (ext_of_cx h)
theorem region_za {id : Nat} {Q : Exit → Act → World → Prop} {a : Act} {w0 w : World} {bs : List Bk} {l : List Oper} (H : Kp (Loc w0 w bs)) (n iA dA : Nat) (ty : TypeId) (zs : List Value) (hm : P.follows .mixedOrders = true)
  (hB : flatB l.toArray n = true) (hT : topoB l.toArray ((l.take n).eraseIdx iA) = true) (hF : freshB l.toArray n iA dA = true)
  (hmk : ∀ o, l.toArray[iA]? = some o → o.dst = some dA ∧ o.guard = none ∧ dA < a.tmps.size ∧ ∀ (e : Operand → Value) (w : World), (execOp e o).run P w = .ok (.value (.pointer (some ⟨w.heap.size, 0, none⟩))) (w.alloc (.cells zs.toArray ty))) (hi : iA < n)
  (h : ∃ A, (∀ x0, wpQuiet P l.toArray (Cx w x0) (fun a' => a' = A) ((l.take n).eraseIdx iA) a) ∧ ∀ g w', Kp (w.heap.size ≤ g) → Kp (Ext w w') → Kp (Loc w0 w' ((g, ty, zs) :: bs)) → wpList P l.toArray Q (l.drop n) (A.put (some dA) (.pointer (some ⟨g, 0, none⟩))) w') : (Code.region id l.toArray true).wp P Q a w := by
 obtain ⟨A, h1, h2⟩ := h
 refine region_a n iA dA (.cells zs.toArray ty) hm hB hT hF hmk hi ⟨A, h1, fun x1 x2 => ?_⟩
 have e1 : Ext w (more w x1) := Ext.more w x1
 have e2 : Ext (more w x1) ((more w x1).alloc (.cells zs.toArray ty)) := Ext.alloc _ _
 have e3 := Ext.more ((more w x1).alloc (.cells zs.toArray ty)) x2
 have hx := (e1.trans e2).trans e3
 refine h2 _ _ (kp (Nat.le_add_right _ _)) (kp hx) (kp ((H.out.ext hx).add w.heap.size (fun g hg => ?_) H.out.1.size (Nat.le_add_right _ _) ?_))
 ·obtain ⟨q, hq, rfl⟩ := List.mem_map.1 hg
  exact (H.out.2.2 q hq).2.lt
 ·exact hp_more (hp_at _ _ _ (by rw [more_size]))
variable {o : Oper} {a : Act} {w0 w : World} {x0 : Xtra} {K : Act → Prop} {bs : List Bk}
theorem qz_1 (H : Kp (Loc w0 w bs)) (ty : TypeId) (x : Operand) (ho : o.op = .load ty x) (k : Nat) {g T : Nat} {ps : List Lf} (hi : bs[k]? = some (g, T, cat ps)) (off : Nat)
  (hx : a.eval x = .pointer (some ⟨g, off, none⟩)) (i : Nat) (hf : fat ps off = some i) (v : Value) {hv ho'} (hp : nth ps i = some ⟨1, [v], hv, ho'⟩) {d : TypeDesc} (hu : P.underlying ty = some d) (hd : d.isRow = false)
  (h : K (a.put o.dst v)) : o.quiet P a (Cx w x0) K := by
 refine ⟨v, fun w' hw => ?_, h⟩
 have hc : w'.cell? ⟨g, off, none⟩ = some v := ((H.out.ext (cx_ext hw)).at k hi).cell (cat_cell hf hp)
 unfold Oper.quietAt execOp
 simp only [ho, hx, Instr.loadAt, Instr.sureAddr, Sem.run_bind, Sem.run_pure, Result.andThen_ok, run_loadVar_cell w' g off ty v hc hu hd]
 exact ⟨rfl, rfl⟩
theorem qz_l (H : Kp (Loc w0 w bs)) (ty : TypeId) (x : Operand) (ho : o.op = .load ty x) (k : Nat) {g T : Nat} {cs : List Value} (hi : bs[k]? = some (g, T, cs)) (off : Nat)
  (hx : a.eval x = .pointer (some ⟨g, off, none⟩)) (ds : List Value) (hds : (cs.drop off).take ds.length = ds) {d : TypeDesc} (hu : P.underlying ty = some d) (hd : d.isRow = true) (hz : (P.info? ty).map (·.size) = some ds.length)
  (h : K (a.put o.dst (.agg ds.toArray))) : o.quiet P a (Cx w x0) K := by
 refine ⟨_, fun w' hw => ?_, h⟩
 unfold Oper.quietAt execOp
 simp only [ho, hx, Instr.loadAt, Instr.sureAddr, Sem.run_bind, Sem.run_pure, Result.andThen_ok, run_loadVar_mid w' g off ty ds d (((H.out.ext (cx_ext hw)).at k hi).range hds) hu hd hz]
 exact ⟨rfl, rfl⟩
theorem qz_v (H : Kp (Loc w0 w bs)) (ty : TypeId) (x : Operand) (ho : o.op = .load ty x) (k : Nat) {g T : Nat} {ps : List Lf} (hi : bs[k]? = some (g, T, cat ps)) (off : Nat)
  (hx : a.eval x = .pointer (some ⟨g, off, none⟩)) (i : Nat) (hf : fat ps off = some i) {n : Nat} {cs : List Value} {hn ho'} (hp : nth ps i = some ⟨n, cs, hn, ho'⟩) {d : TypeDesc} (hu : P.underlying ty = some d) (hd : d.isRow = true) (hz : (P.info? ty).map (·.size) = some n)
  (h : K (a.put o.dst (.agg cs.toArray))) : o.quiet P a (Cx w x0) K := qz_l H ty x ho k hi off hx cs (cat_part hf hp) hu hd (by rw [hz, hn]) h
theorem qz_g (H : Kp (Loc w0 w bs)) (ty : TypeId) (x : Operand) (ho : o.op = .load ty x) (k : Nat) {g T : Nat} {ps : List Lf} (hi : bs[k]? = some (g, T, cat ps)) (off : Nat)
  (hx : a.eval x = .pointer (some ⟨g, off, none⟩)) (i : Nat) (hf : fat ps off = some i) (qs : List Lf) (hp : (ps.drop i).take qs.length = qs) {d : TypeDesc} (hu : P.underlying ty = some d) (hd : d.isRow = true) (hz : (P.info? ty).map (·.size) = some (lsum qs))
  (h : K (a.put o.dst (.agg (cat qs).toArray))) : o.quiet P a (Cx w x0) K := qz_l H ty x ho k hi off hx (cat qs) (cat_group hf hp) hu hd (by rw [hz, cat_len]) h
theorem qz_a (H : Kp (Loc w0 w bs)) (ty : TypeId) (x : Operand) (ho : o.op = .load ty x) (k : Nat) {g T : Nat} {ps : List Lf} (hi : bs[k]? = some (g, T, cat ps))
  (hx : a.eval x = .pointer (some ⟨g, 0, none⟩)) {d : TypeDesc} (hu : P.underlying ty = some d) (hd : d.isRow = true) (hz : (P.info? ty).map (·.size) = some (lsum ps))
  (h : K (a.put o.dst (.agg (cat ps).toArray))) : o.quiet P a (Cx w x0) K := qz_l H ty x ho k hi 0 hx (cat ps) (by rw [List.drop_zero, List.take_of_length_le (Nat.le_refl _)]) hu hd (by rw [hz, cat_len]) h
theorem qz_b (b : BinOp) (t u : TypeId) (x y : Operand) (ho : o.op = .binOp b t x y u) (vx vy v : Value) (hx : a.eval x = vx) (hy : a.eval y = vy) (hgm : ∀ w', (eqGuard b t x y vx vy).run P w' = .ok () w') (hrun : ∀ w', (binOp b t vx vy).run P w' = .ok v w')
  (h : K (a.put o.dst v)) : o.quiet P a (Cx w x0) K := by
 refine ⟨v, fun w' hw => ?_, h⟩
 unfold Oper.quietAt
 simp [execOp, ho, hx, hy, hgm, hrun, Result.andThen]
 exact ⟨rfl, rfl⟩
theorem qz_eq (t u : TypeId) (x y : Operand) (ho : o.op = .binOp .eql t x y u) (cx cy : List Value) (b : Bool) (hx : a.eval x = .agg cx.toArray) (hy : a.eval y = .agg cy.toArray) (hg : P.eqGuardType P.depth t = false) (hq : ∀ w', (Op.equalIn 10000 t (.agg cx.toArray) (.agg cy.toArray)).run P w' = .ok b w')
  (h : K (a.put o.dst (.bool b))) : o.quiet P a (Cx w x0) K :=
 qz_b .eql t u x y ho _ _ _ hx hy (fun _ => run_eqGuard_agg _ _ _ _ _ _ _ hg) (fun w' => by rw [run_eql_struct, hq w']; rfl) h
theorem qz_ne (t u : TypeId) (x y : Operand) (ho : o.op = .binOp .neq t x y u) (cx cy : List Value) (b : Bool) (hx : a.eval x = .agg cx.toArray) (hy : a.eval y = .agg cy.toArray) (hg : P.eqGuardType P.depth t = false) (hq : ∀ w', (Op.equalIn 10000 t (.agg cx.toArray) (.agg cy.toArray)).run P w' = .ok b w')
  (h : K (a.put o.dst (.bool (!b)))) : o.quiet P a (Cx w x0) K :=
 qz_b .neq t u x y ho _ _ _ hx hy (fun _ => run_eqGuard_agg _ _ _ _ _ _ _ hg) (fun w' => by rw [run_neq_struct, hq w']; rfl) h
theorem qz_c (ty : TypeId) (x : Operand) (ho : o.op = .load ty x) (b off : Nat) (hx : a.eval x = .pointer (some ⟨b, off, none⟩)) (v : Value) (hc : ∀ w', Ext w w' → w'.cell? ⟨b, off, none⟩ = some v) {d : TypeDesc} (hu : P.underlying ty = some d) (hd : d.isRow = false)
  (h : K (a.put o.dst v)) : o.quiet P a (Cx w x0) K := by
 refine ⟨v, fun w' hw => ?_, h⟩
 unfold Oper.quietAt execOp
 simp only [ho, hx, Instr.loadAt, Instr.sureAddr, Sem.run_bind, Sem.run_pure, Result.andThen_ok, run_loadVar_cell w' b off ty v (hc w' (cx_ext hw)) hu hd]
 exact ⟨rfl, rfl⟩
theorem qz_bd (t : TypeId) (parts : Array (Nat × Operand)) (ho : o.op = .build t parts) (ps : Array (Nat × Value)) (hp : parts.map (fun p => (p.1, a.eval p.2)) = ps) (cs : List Value) (hrun : ∀ w', (Instr.build t ps).run P w' = .ok (.agg cs.toArray) w')
  (h : K (a.put o.dst (.agg cs.toArray))) : o.quiet P a (Cx w x0) K := by
 refine ⟨_, fun w' hw => ?_, h⟩
 unfold Oper.quietAt execOp
 simp only [ho, Sem.run_bind, hp, hrun w', Result.andThen_ok, Sem.run_pure]
 exact ⟨rfl, rfl⟩
end
theorem one_any (b : Bool) (w : World) : Calls Try.prog 40 #[.bool b] w fun e w' => e = .returned (.int .i64 (oneI b)) ∧ w' = w := by
 cases b
 all_goals
  go_enter Try.func40, Try.ntmps40
  go_wp2_with fail
  go_ret
  exact ⟨rfl, rfl⟩
theorem path5 (A B C D E : Bool) : A = true ∨ (A = false ∧ B = true) ∨ (A = false ∧ B = false ∧ C = true ∧ D = true) ∨ (A = false ∧ B = false ∧ C = false ∧ E = true) ∨ (A = false ∧ B = false ∧ C = true ∧ D = false ∧ E = true) ∨ (A = false ∧ B = false ∧ C = false ∧ E = false) ∨ (A = false ∧ B = false ∧ C = true ∧ D = false ∧ E = false) := by
 cases A <;> cases B <;> cases C <;> cases D <;> cases E <;> simp
set_option maxRecDepth 10000 in
set_option maxHeartbeats 3200000 in
theorem validAuth_any (s : Fw) (w : World) :
  Calls Try.prog 38 #[.agg (cat (partsF s)).toArray] w fun e w' => e = .returned (.bool (validAuthF s)) ∧ Ext w w' := by
 have H := kp (Loc.start w)
 have HON := kp one_any
 have HW8 := kp (show ∀ b : Bool, wrap64 (8 * oneI b) = 8 * oneI b from fun b => by cases b <;> first | kernel_rfl | decide | (simp [wrap64, oneI]; done))
 go_enter Try.func38, Try.ntmps38
 generalize h1 : (Code.region 1 _ _ : Code) = R1
 generalize h2 : (Code.region 2 _ _ : Code) = R2
 generalize h4 : (Code.region 4 _ _ : Code) = R4
 generalize h6 : (Code.region 6 _ _ : Code) = R6
 go_wp2_with ((with_reducible refine isBx 1 32 ?_); (refine L_box H rfl 32 _ rfl (cat (partsF s)) rfl ?_); clear H; intro g1 w1 HGg1 HEg1 H; simp only [pA])
 subst h1
 refine wp_cut [3, 6, 7, 8, 9, 10, 11, 12, 13] (fun vs w' => Kp (Loc w w' [(g1, 32, cat (partsF s))]) ∧ vs 3 = .bool (waitsB s)) ?_ ?_
 ·go_wp2_with ((with_reducible refine isLd 5 ?_); (refine L_f1 H rfl 5 _ rfl 0 rfl _ rfl _ rfl _ rfl Try.underlying5 rfl ?_); simp only [pA])
  all_goals exact CutP.of rfl (by kernel_rfl) ⟨H, by simp [waitsB, *]⟩
 rintro vs w2 ⟨H, e3⟩
 simp only [putMany, List.setIfInBounds_toArray, List.set_cons_zero, List.set_cons_succ]
 rw [e3]
 clear e3
 go_wp2_with fail
 subst h2
 refine wp_cut [4, 14, 15, 16, 17, 18, 19, 20, 21] (fun vs w' => Kp (Loc w w' [(g1, 32, cat (partsF s))]) ∧ vs 4 = .bool (keyedB s)) ?_ ?_
 ·go_wp2_with ((with_reducible refine isLd 5 ?_); (refine L_f1 H rfl 5 _ rfl 0 rfl _ rfl _ rfl _ rfl Try.underlying5 rfl ?_); simp only [pA])
  all_goals exact CutP.of rfl (by kernel_rfl) ⟨H, by simp [keyedB, *]⟩
 rintro vs w3 ⟨H, e4⟩
 simp only [putMany, List.setIfInBounds_toArray, List.set_cons_zero, List.set_cons_succ]
 rw [e4]
 clear e4
 go_wp2_with ((with_reducible refine isLd 5 ?_); (refine L_f1 H rfl 5 _ rfl 0 rfl _ rfl _ rfl _ rfl Try.underlying5 rfl ?_); simp only [pA])
 rw [show (s.stage == 0) = idleB s from rfl]
 subst h4
 refine wp_cut (25 :: 26 :: 27 :: 28 :: 29 :: 30 :: 31 :: 32 :: 33 :: 34 :: 35 :: 36 :: 37 :: 38 :: 39 :: 40 :: 41 :: 42 :: 43 :: 44 :: 45 :: 46 :: 47 :: 48 :: 49 :: 50 :: 51 :: 52 :: 53 :: 54 :: 55 :: 56 :: 57 :: 58 :: 59 :: 60 :: 61 :: []) (fun vs w' => Kp (Loc w w' [(g1, 32, cat (partsF s))]) ∧ vs 61 = .bool (badA1 s)) ?_ ?_
 ·have hw8 := HW8.out (!idleB s)
  have HBA := kp (show badA1 s = (decide (5 < s.stage) || s.stage == 2 || (s.gid != 2 && s.gid != 3) || decide (s.replay < oneI (!idleB s)) || decide (8 * oneI (!idleB s) < s.replay)) from by
   unfold badA1 gidB; rw [Bool.not_or]; rfl)
  have HP := kp (path5 (decide (5 < s.stage)) (s.stage == 2) (s.gid != 2) (s.gid != 3) (decide (s.replay < oneI (!idleB s))))
  rcases HP.out with h1 | ⟨h1, h2⟩ | ⟨h1, h2, h3, h4⟩ | ⟨h1, h2, h3, h4⟩ | ⟨h1, h2, h3, h4, h5⟩ | ⟨h1, h2, h3, h4⟩ | ⟨h1, h2, h3, h4, h5⟩
  all_goals
   refine region_z H 37 (by kernel_rfl) (by kernel_rfl) (by kernel_rfl) (by kernel_rfl) (by decide) (Nat.le_of_ble_eq_true (by kernel_rfl)) ?_
   apply Exists.intro
   refine ⟨fun xz2 => ?_, fun wz2 HXZ H => ?_⟩
   ·simp only [List.take_succ_cons, List.take_zero]
    unfold Cx
    repeat (first | ((with_reducible show wpQuiet _ _ _ _ (Oper.mk _ (Op.load 3 _) _ _ _ _ :: _) _); go_big_quiet_want; (refine qz_1 H 3 _ rfl 0 rfl _ rfl _ rfl _ rfl Try.underlying3 rfl ?_); simp only [pA]; go_big_quiet_on) | ((with_reducible show wpQuiet _ _ _ _ (Oper.mk _ (Op.load 5 _) _ _ _ _ :: _) _); go_big_quiet_want; (refine qz_1 H 5 _ rfl 0 rfl _ rfl _ rfl _ rfl Try.underlying5 rfl ?_); simp only [pA]; go_big_quiet_on) | go_big_quiet_step ((go_at_call 40; exact Calls.cx_of_same (HON.out _ _))))
    exact wpQuiet_nil rfl
   simp only [List.drop_succ_cons, List.drop_zero]
   go_wp2_with fail
   exact CutP.of rfl (by kernel_rfl) ⟨H, by show Value.bool _ = Value.bool _; rw [HBA.out]; simp only [*, Bool.true_or, Bool.or_true, Bool.false_or, Bool.or_false, Bool.and_false, Bool.false_and, Bool.and_self]⟩
 rintro vs w5 ⟨H, e61⟩
 simp only [putMany, List.setIfInBounds_toArray, List.set_cons_zero, List.set_cons_succ]
 rw [e61]
 clear e61
 have HV := kp (show validAuthF s = if badA1 s then false else if badA2 s then false else (keyedB s || freshS s) from rfl)
 cases hb : badA1 s with
 | true =>
  rw [hb] at HV
  clear hb
  go_wp2_with fail
  go_ret
  exact ⟨by rw [HV.out]; rfl, H.out.1⟩
 | false =>
  rw [hb] at HV
  clear hb
  go_wp2_with fail
  subst h6
  refine wp_cut (3 :: 62 :: 63 :: 64 :: 65 :: 66 :: 67 :: 68 :: 69 :: 70 :: 71 :: 72 :: 73 :: 74 :: 75 :: 76 :: 77 :: 78 :: 79 :: 80 :: 81 :: 82 :: 83 :: 84 :: 85 :: 86 :: 87 :: 88 :: 89 :: 90 :: 91 :: 92 :: 93 :: 94 :: 95 :: 96 :: []) (fun vs w' => Kp (Loc w w' [(g1, 32, cat (partsF s))]) ∧ vs 96 = .bool (badA2 s)) ?_ ?_
  ·go_wp2_with ((with_reducible refine isLd 3 ?_); (refine L_f1 H rfl 3 _ rfl 0 rfl _ rfl _ rfl _ rfl Try.underlying3 rfl ?_); simp only [pA])
   all_goals exact CutP.of rfl (by kernel_rfl) ⟨H, by show Value.bool _ = Value.bool _; simp [badA2, *]⟩
  rintro vs w6 ⟨H, e96⟩
  simp only [putMany, List.setIfInBounds_toArray, List.set_cons_zero, List.set_cons_succ]
  rw [e96]
  clear e96
  cases hb : badA2 s with
  | true =>
   rw [hb] at HV
   clear hb
   go_wp2_with fail
   go_ret
   exact ⟨by rw [HV.out]; rfl, H.out.1⟩
  | false =>
   rw [hb] at HV
   clear hb
   go_wp2_with (first | ((with_reducible refine isLd 26 ?_); (refine L_fv H rfl 26 _ rfl 0 rfl _ rfl _ rfl rfl Try.underlying26 rfl (by kernel_rfl) ?_); simp only [pA]) | ((with_reducible show wpList _ _ _ (Oper.mk _ (Op.build 26 _) _ _ _ _ :: _) _ _); (refine L_bd rfl 26 _ rfl #[] (by kernel_rfl) ((zv 16).1.map V8) (fun _ => by kernel_rfl) ?_); simp only [pA]) | ((with_reducible show wpList _ _ _ (Oper.mk _ (Op.binOp _ 26 _ _ _) _ _ _ _ :: _) _ _); (refine wpList_eq2 rfl 26 _ _ _ rfl _ _ _ rfl rfl Try.eqGuardType26 (eqV_in _ Try.underlying26 _ _ 9998) ?_); simp only [pA]) | ((with_reducible refine isLd 28 ?_); (refine L_fg H rfl 28 _ rfl 0 rfl _ rfl _ rfl (partsK s.pair) rfl Try.underlying28 rfl (by kernel_rfl) ?_); simp only [pA]) | ((with_reducible show wpList _ _ _ (Oper.mk _ (Op.build 28 _) _ _ _ _ :: _) _ _); (refine L_bd rfl 28 _ rfl #[] (by kernel_rfl) (cat (partsK ks0)) (fun _ => by kernel_rfl) ?_); simp only [pA]) | ((with_reducible show wpList _ _ _ (Oper.mk _ (Op.binOp _ 28 _ _ _) _ _ _ _ :: _) _ _); (refine wpList_eq2 rfl 28 _ _ _ rfl _ _ _ rfl rfl Try.eqGuardType28 (eqK_in _ _ _ 9997) ?_); simp only [pA]))
   all_goals go_ret
   all_goals exact ⟨by rw [HV.out]; simp [freshS, *], H.out.1⟩
end Go.Proofs.Ytibncchobkaaiaa
