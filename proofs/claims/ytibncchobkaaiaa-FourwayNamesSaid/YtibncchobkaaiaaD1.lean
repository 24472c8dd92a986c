/- Texts of this proof, put together: EqF, HsC, LosP, NamP, Nam. -/
import Derived.ChangeKeysEq
import Derived.Test.YtibncchobkaaiaaC1
import Derived.Test.YtibncchobkaaiaaC2
import Derived.Test.YtibncchobkaaiaaC3
import Derived.Test.YtibncchobkaaiaaC4
import Derived.Test.YtibncchobkaaiaaC5
import Derived.Test.YtibncchobkaaiaaC6
import Derived.Test.YtibncchobkaaiaaC7
import Derived.Test.YtibncchobkaaiaaC8
import Derived.Test.YtibncchobkaaiaaC9
import Derived.Test.YtibncchobkaaiaaC10
import Derived.Test.YtibncchobkaaiaaC11
import Derived.Test.YtibncchobkaaiaaC12
import Derived.Test.YtibncchobkaaiaaC13
import Derived.Test.YtibncchobkaaiaaC14
import Derived.Test.YtibncchobkaaiaaC15
import Derived.Test.YtibncchobkaaiaaC16
import Derived.Test.YtibncchobkaaiaaC17
import Derived.Test.YtibncchobkaaiaaC18
import Derived.Test.YtibncchobkaaiaaC19
import Derived.Test.YtibncchobkaaiaaC20
import Derived.Test.YtibncchobkaaiaaC21
import Derived.Test.YtibncchobkaaiaaC22
import Derived.Test.YtibncchobkaaiaaC23
import Derived.Test.YtibncchobkaaiaaC24
import Derived.Test.YtibncchobkaaiaaC25
import Derived.Test.YtibncchobkaaiaaC26
import Derived.Test.YtibncchobkaaiaaC27
import Derived.Test.YtibncchobkaaiaaC28
import Derived.Test.YtibncchobkaaiaaC29
import Derived.Test.YtibncchobkaaiaaC30
import Derived.Test.YtibncchobkaaiaaC31
namespace Go.Proofs.Ytibncchobkaaiaa
open Go.RowKit
section
variable {P : Program}
theorem part_fg (w : World) {E : TypeId} {d : TypeDesc} (hE : P.underlying E = some d) (hd : d.isRow = true) {ps : List Lf} {off i : Nat} (qs : List Lf) (hz : (P.info? E).map (·.size) = some (lsum qs)) (hf : fat ps off = some i) (hp : (ps.drop i).take qs.length = qs) : (part E (cat ps).toArray off).run P w = .ok (.agg (cat qs).toArray) w := by
 have hc := cat_group hf hp
 rw [part_cells w hE hd hz, ← cat_len, hc]
end
theorem fields32 : (Try.prog.fieldsOf 32).toList.map (fun f => (f.type, f.offset)) = [(5, 0), (5, 1), (23, 2), (23, 8), (25, 14), (26, 30), (26, 46), (3, 62), (3, 63), (3, 64), (28, 65), (30, 113), (3, 130)] := by kernel_rfl
theorem eqF_in (w : World) (x y : Fw) : (Op.equalIn 10000 32 (.agg (cat (partsF x)).toArray) (.agg (cat (partsF y)).toArray)).run Try.prog w = .ok (decide (x = y)) w := by
 rw [run_equalIn_struct w 9999 32 _ _ (by kernel_rfl) (by kernel_rfl)]
 rw [eqFields_by (fun o => if o = 0 then x.role == y.role else if o = 1 then x.stage == y.stage else if o = 2 then decide (x.own = y.own) else if o = 8 then decide (x.peer = y.peer) else if o = 14 then decide (x.master = y.master) else if o = 30 then decide (x.mine = y.mine) else if o = 46 then decide (x.other = y.other) else if o = 62 then x.replay == y.replay else if o = 63 then x.tries == y.tries else if o = 64 then x.due == y.due else if o = 65 then decide (x.pair = y.pair) else if o = 113 then (x.gid == y.gid && decide (x.gkey = y.gkey)) else x.inst == y.inst) fields32 (by kernel_rfl) (fun p hp => ?_)]
 ·refine congrArg (fun z => Result.ok z w) (Bool.eq_iff_iff.2 ?_)
  obtain ⟨a0, a1, a2, a3, a4, a5, a6, a7, a8, a9, a10, a11, a12, a13⟩ := x
  obtain ⟨b0, b1, b2, b3, b4, b5, b6, b7, b8, b9, b10, b11, b12, b13⟩ := y
  simp [and_assoc]
 simp only [List.mem_cons, List.not_mem_nil, or_false] at hp
 rcases hp with rfl | rfl | rfl | rfl | rfl | rfl | rfl | rfl | rfl | rfl | rfl | rfl | rfl
 ·exact ⟨_, _, part_f1 w Try.underlying5 rfl (i := 0) rfl rfl, part_f1 w Try.underlying5 rfl (i := 0) rfl rfl, run_equalIn_int w 9998 5 _ _ _ _ Try.underlying5⟩
 ·exact ⟨_, _, part_f1 w Try.underlying5 rfl (i := 1) rfl rfl, part_f1 w Try.underlying5 rfl (i := 1) rfl rfl, run_equalIn_int w 9998 5 _ _ _ _ Try.underlying5⟩
 ·exact ⟨_, _, part_fv w Try.underlying23 rfl (by kernel_rfl) (i := 2) rfl rfl, part_fv w Try.underlying23 rfl (by kernel_rfl) (i := 2) rfl rfl, eqV_in w Try.underlying23 x.own y.own 9997⟩
 ·exact ⟨_, _, part_fv w Try.underlying23 rfl (by kernel_rfl) (i := 3) rfl rfl, part_fv w Try.underlying23 rfl (by kernel_rfl) (i := 3) rfl rfl, eqV_in w Try.underlying23 x.peer y.peer 9997⟩
 ·exact ⟨_, _, part_fv w Try.underlying25 rfl (by kernel_rfl) (i := 4) rfl rfl, part_fv w Try.underlying25 rfl (by kernel_rfl) (i := 4) rfl rfl, eqV_in w Try.underlying25 x.master y.master 9997⟩
 ·exact ⟨_, _, part_fv w Try.underlying26 rfl (by kernel_rfl) (i := 5) rfl rfl, part_fv w Try.underlying26 rfl (by kernel_rfl) (i := 5) rfl rfl, eqV_in w Try.underlying26 x.mine y.mine 9997⟩
 ·exact ⟨_, _, part_fv w Try.underlying26 rfl (by kernel_rfl) (i := 6) rfl rfl, part_fv w Try.underlying26 rfl (by kernel_rfl) (i := 6) rfl rfl, eqV_in w Try.underlying26 x.other y.other 9997⟩
 ·exact ⟨_, _, part_f1 w Try.underlying3 rfl (i := 7) rfl rfl, part_f1 w Try.underlying3 rfl (i := 7) rfl rfl, run_equalIn_int w 9998 3 _ _ _ _ Try.underlying3⟩
 ·exact ⟨_, _, part_f1 w Try.underlying3 rfl (i := 8) rfl rfl, part_f1 w Try.underlying3 rfl (i := 8) rfl rfl, run_equalIn_int w 9998 3 _ _ _ _ Try.underlying3⟩
 ·exact ⟨_, _, part_f1 w Try.underlying3 rfl (i := 9) rfl rfl, part_f1 w Try.underlying3 rfl (i := 9) rfl rfl, run_equalIn_int w 9998 3 _ _ _ _ Try.underlying3⟩
 ·exact ⟨_, _, part_fg w Try.underlying28 rfl (partsK x.pair) (by kernel_rfl) (i := 10) rfl rfl, part_fg w Try.underlying28 rfl (partsK y.pair) (by kernel_rfl) (i := 10) rfl rfl, eqK_in w x.pair y.pair 9996⟩
 ·exact ⟨_, _, part_fg w Try.underlying30 rfl (partsG x.gid x.gkey) (by kernel_rfl) (i := 13) rfl rfl, part_fg w Try.underlying30 rfl (partsG y.gid y.gkey) (by kernel_rfl) (i := 13) rfl rfl, eqG_in w x.gid y.gid x.gkey y.gkey 9996⟩
 ·exact ⟨_, _, part_f1 w Try.underlying3 rfl (i := 15) rfl rfl, part_f1 w Try.underlying3 rfl (i := 15) rfl rfl, run_equalIn_int w 9998 3 _ _ _ _ Try.underlying3⟩
end Go.Proofs.Ytibncchobkaaiaa
namespace Go.Proofs.Ytibncchobkaaiaa
open Go.RowKit
theorem ms2_len (p : Pr) (k : Int) : (ms2 p k).length = 43 := signedF_len _ _ _ _ _ p.his.2
theorem ms3_len (p : Pr) (k : Int) : (ms3 p k).length = 68 := by unfold ms3; rw [signedF_len _ _ _ _ _ p.mine.2, wrapF_len]
theorem st_early {p : Pr} (h : p.Ok) {k t d n : Int} (k1 : 1 ≤ k) (kt : k ≤ 4 + t) (t1 : 1 ≤ t) (t4 : t ≤ 4) (hd : DueOk d) (hn : NowOk n) (hdn : n < d) : tickF (stA3 p k t d) n = (stA3 p k t d, [], 0) := tickF_still ((goodA3 h k1 kt t1 t4 hd).now hn) (.inr hdn)
end Go.Proofs.Ytibncchobkaaiaa
namespace Go.Proofs.Ytibncchobkaaiaa
open Go.RowKit
def SameK (p : Pr) : Prop := p.otherK = p.master
end Go.Proofs.Ytibncchobkaaiaa
namespace Go.Proofs.Ytibncchobkaaiaa
open Go.RowKit
theorem now0 : NowOk 0 := by unfold NowOk; omega
theorem due1 : DueOk 100000 := by unfold DueOk; omega
theorem nm_new1 (p : Pr) : newF 1 p.one p.one p.master p.mine p.gid p.gkey = (fw0, 2) := new_bad (by unfold newB; simp)
theorem nm_new2 (p : Pr) : newF 1 p.one p.two p.master p.mine 0 (zv 16) = (fw0, 2) := new_bad (by unfold newB; simp)
theorem nm_new3 (p : Pr) : newF 3 p.one p.two p.master p.mine p.gid p.gkey = (fw0, 2) := new_bad (by unfold newB; simp)
theorem nm_h {p : Pr} (h : p.Ok) : startF (stS0 p) 0 = errR 20 := by
 unfold startF
 rw [if_neg (by rw [(goodS0 h).now now0]; decide), if_pos (.inl (show ¬ (2 : Int) = 1 by decide))]
theorem nm_j {p : Pr} (h : p.Ok) : startF (stA1 p 1 100000) 0 = errR 20 := by
 unfold startF
 rw [if_neg (by rw [(goodA1 h (by decide) (by decide) due1).now now0]; decide), if_pos (.inr (by show ¬ (1 : Int) = 0; decide))]
theorem nm_k {p : Pr} (h : p.Ok) : startF (stA0 p) (-1) = errR 2 := by
 have e : checkedF (stA0 p) (-1) = 2 := by unfold checkedF timeB; rw [(goodA0 h).check]; rfl
 unfold startF
 rw [e]; rfl
theorem nm_l {p : Pr} (h : p.Ok) : handleF (stS0 p) (List.replicate 42 0#8) 0 = errR 10 := by
 have e : parseE (List.replicate 42 0#8) = 10 := by unfold parseE; rw [if_pos (by simp)]
 unfold handleF
 rw [if_neg (by rw [(goodS0 h).now now0]; decide), e, if_pos (by decide)]
theorem nm_m {p : Pr} (h : p.Ok) : handleF (stS0 p) (List.replicate 43 0#8) 0 = errR 12 := by
 have e : parseE (List.replicate 43 0#8) = 12 := by
  unfold parseE
  rw [if_neg (by simp)]
  have : kindP (List.replicate 43 0#8) = 0 := rfl
  unfold oddP
  rw [this]; rfl
 unfold handleF
 rw [if_neg (by rw [(goodS0 h).now now0]; decide), e, if_pos (by decide)]
theorem hf_20 {s : Fw} {b : By} {now : Int} (hc : checkedF s now = 0) (hp : parseE b = 0) (h : ¬ (s.role = 1 ∧ s.stage = 1 ∧ kindP b = 2) ∧ ¬ (s.role = 1 ∧ s.stage = 3 ∧ kindP b = 4) ∧ ¬ (s.role = 2 ∧ (s.stage = 0 ∨ s.stage = 2) ∧ kindP b = 1) ∧ ¬ (s.role = 2 ∧ (s.stage = 2 ∨ s.stage = 4) ∧ kindP b = 3)) : handleF s b now = errR 20 := by
 unfold handleF
 rw [if_neg (by omega), if_neg (by omega), if_neg h.1, if_neg h.2.1, if_neg h.2.2.1, if_neg h.2.2.2]
theorem nm_n {p : Pr} (h : p.Ok) : handleF (stA1 p 1 100000) (ms1 p 1) 0 = errR 20 := by
 refine hf_20 ((goodA1 h (by decide) (by decide) due1).now now0) (parse_ms1 p (by decide) (by decide)) ?_
 rw [kind_ms1]
 refine ⟨fun q => absurd q.2.2 (by decide), fun q => absurd q.2.2 (by decide), fun q => absurd (show (1 : Int) = 2 from q.1) (by decide), fun q => absurd q.2.2 (by decide)⟩
theorem nm_t {p : Pr} (h : p.Ok) : handleF (stA3 p 2 1 100000) (ms2 p 1) 0 = errR 20 := by
 refine hf_20 ((goodA3 h (by decide) (by decide) (by decide) (by decide) due1).now now0) (parse_ms2 p (by decide) (by decide)) ?_
 rw [kind_ms2]
 refine ⟨fun q => absurd (show (3 : Int) = 1 from q.2.1) (by decide), fun q => absurd q.2.2 (by decide), fun q => absurd q.2.2 (by decide), fun q => absurd q.2.2 (by decide)⟩
theorem nm_o {p : Pr} (h : p.Ok) (hm : SameK p) : handleF (stS0 p) (ms1 p 1) 0 = (stS2 p, [ms2 p 1], 0) := st_first hm (.inl rfl) (goodS0 h) (by decide) (by decide) now0
theorem nm_r {p : Pr} (h : p.Ok) : handleF (stA1 p 1 100000) (ms2 p 1) 0 = (stA3 p 2 1 100000, [ms3 p 2], 0) := st_second h (k := 1) (d := 100000) (n := 0) (by decide) (by decide) due1 now0
theorem nm_u {p : Pr} (h : p.Ok) : tickF (stA3 p 2 1 100000) 99999 = (stA3 p 2 1 100000, [], 0) := st_early h (by decide) (by decide) (by decide) (by decide) due1 (by unfold NowOk; omega) (by decide)
theorem nm_bad : checkE fw0 = 8 := by decide
theorem nm_good {p : Pr} (h : p.Ok) (hm : SameK p) : checkE (stS2 p) = 0 := by unfold checkE; rw [(goodS2 h hm).check]; rfl
def xB (b : By) : By := b.set 42 (b.getD 42 0 + 1)
theorem set_drop {b : By} {i n : Nat} {v : BitVec 8} (j : Nat) (h : j + n ≤ i) : ((b.set i v).drop j).take n = (b.drop j).take n := by
 refine List.ext_getElem? fun k => ?_
 rw [List.getElem?_take, List.getElem?_take, List.getElem?_drop, List.getElem?_drop]
 split
 ·rw [List.getElem?_set_ne (by omega)]
 ·rfl
theorem set_getX {b : By} {i : Nat} {v : BitVec 8} (j : Nat) (h : j ≠ i) : (b.set i v).getD j 0 = b.getD j 0 := by
 rw [List.getD_eq_getElem?_getD, List.getD_eq_getElem?_getD, List.getElem?_set_ne (by omega)]
theorem x_kind (b : By) : kindP (xB b) = kindP b := by unfold kindP xB; rw [set_getX 0 (by decide)]
theorem x_count (b : By) : countP (xB b) = countP b := by unfold countP xB; rw [set_drop 1 (by decide)]
theorem x_nonce {b : By} (h : b.length = 43) : nonceP (xB b) = nonceP b := by
 unfold nonceP
 refine Subtype.ext ?_
 rw [fit_val (by unfold xB; simp [h]), fit_val (by simp [h])]
 unfold xB
 exact set_drop 9 (by decide)
theorem x_data {b : By} (h : b.length = 43) : dataP (xB b) = dataP b := by
 unfold dataP xB
 rw [List.length_set, h]; rfl
theorem x_said (b : By) : saidP (xB b) = saidP b := by unfold saidP xB; rw [set_getX 25 (by decide), set_getX 26 (by decide)]
theorem x_ne {b : By} (h : b.length = 43) : b ≠ xB b := by
 intro e
 have h1 : b[42]? = (xB b)[42]? := congrArg (fun z => z[42]?) e
 unfold xB at h1
 rw [List.getElem?_set_self (by omega), List.getD_eq_getElem?_getD, List.getElem?_eq_getElem (by omega)] at h1
 have h2 := Option.some.inj h1
 generalize (b[42]'(by omega)) = y at h2
 exact absurd h2 (by intro q; have := congrArg BitVec.toNat q; simp [BitVec.toNat_add] at this; omega)
theorem nm_q {p : Pr} (h : p.Ok) : handleF (stA1 p 1 100000) (xB (ms2 p 1)) 0 = errR 33 := by
 have hl := ms2_len p 1
 have hp : parseE (xB (ms2 p 1)) = 0 := by
  have h1 := parse_ms2 p (k := 1) (by decide) (by decide)
  have hk : kindP (ms2 p 1) = 2 := kind_ms2 p 1
  unfold parseE at h1 ⊢
  rw [if_neg (by omega)] at h1
  rw [if_neg (by unfold xB; rw [List.length_set]; omega)]
  have e : oddP (xB (ms2 p 1)) = oddP (ms2 p 1) := by
   unfold oddP wantP
   rw [x_kind, x_count, x_nonce hl, x_data hl, x_said, hk]
   simp
  rw [e]; exact h1
 have hr : rightF (xB (ms2 p 1)) (keysF (stA1 p 1 100000) (nonceP (xB (ms2 p 1)))).c.1 = false := by
  unfold rightF
  rw [x_kind, x_count, x_nonce hl, x_data hl, kind_ms2, count_ms2 p (by decide) (by decide), nonce_ms2, keys_A p (stA1 p 1 100000) rfl rfl rfl rfl]
  have e : dataP (ms2 p 1) = [] := data_signed _ _ _ _ _ p.his.2
  rw [e]
  show (ms2 p 1 == xB (ms2 p 1)) = false
  rw [beq_eq_false_iff_ne]
  exact x_ne hl
 have he : secondE (stA1 p 1 100000) (xB (ms2 p 1)) = 33 := by
  unfold secondE
  rw [if_neg (by rw [x_count, count_ms2 p (by decide) (by decide)]; show ¬ (1 : Int) ≠ 1; decide), if_pos hr]
 unfold handleF secondF
 rw [if_neg (by rw [(goodA1 h (by decide) (by decide) due1).now now0]; decide), if_neg (by omega), if_pos ⟨rfl, rfl, by rw [x_kind, kind_ms2]⟩, he, if_pos (by decide)]
end Go.Proofs.Ytibncchobkaaiaa
namespace Go.Proofs.Ytibncchobkaaiaa
open Go.RowKit
def ZB (l : By) (v : Value) (w : World) : Prop := ∃ B, w.ownsRow B 5 1 v l.length (l.map V8)
theorem monoN_ZB (B : Nat) (l : By) : MonoN 32 B (ZB l) := fun _ _ _ ⟨B', h⟩ ht => by
 rcases ht with hx | ⟨g, cs, ds, hb, hl, rfl⟩
 ·exact ⟨B', owns_ext h hx⟩
 ·exact ⟨B', owns_wroteT h ⟨_, rfl⟩ hl (by decide)⟩
set_option maxRecDepth 20000 in
set_option maxHeartbeats 6400000 in
theorem fourwayNames_walk (w : World) : Calls Try.prog 5 #[] w fun e w' => e = .returned (.bool true) ∧ Ext w w' := by
 have H := kp (Loc.start w)
 have HC := kp (Chg.refl w)
 have HK := kp sample_ok
 have HM := kp (show SameK sampleP from rfl)
 have HS := kp sample_any
 generalize sampleP = p at *
 have C2 := kp (sides_okC HK.out)
 have N1 := kp (show ∀ w, Calls Try.prog 20 #[.int .u8 1, .agg (p.one.1.map V8).toArray, .agg (p.one.1.map V8).toArray, .agg (p.master.1.map V8).toArray, .agg (p.mine.1.map V8).toArray, .agg (cat (partsG p.gid p.gkey)).toArray] w (NewR (fw0, 2) w) from fun w => by have := new_any 1 p.one p.one p.master p.mine p.gid p.gkey w; rwa [nm_new1] at this)
 have N2 := kp (show ∀ w, Calls Try.prog 20 #[.int .u8 1, .agg (p.one.1.map V8).toArray, .agg (p.two.1.map V8).toArray, .agg (p.master.1.map V8).toArray, .agg (p.mine.1.map V8).toArray, .agg (cat (partsG 0 (zv 16))).toArray] w (NewR (fw0, 2) w) from fun w => by have := new_any 1 p.one p.two p.master p.mine 0 (zv 16) w; rwa [nm_new2] at this)
 have N3 := kp (show ∀ w, Calls Try.prog 20 #[.int .u8 3, .agg (p.one.1.map V8).toArray, .agg (p.two.1.map V8).toArray, .agg (p.master.1.map V8).toArray, .agg (p.mine.1.map V8).toArray, .agg (cat (partsG p.gid p.gkey)).toArray] w (NewR (fw0, 2) w) from fun w => by have := new_any 3 p.one p.two p.master p.mine p.gid p.gkey w; rwa [nm_new3] at this)
 have SH := kp (show ∀ w, Calls Try.prog 10 #[.agg (cat (partsF (stS0 p))).toArray, .int .i64 0] w (ResR (fw0, [], 20) w) from fun w => by have := start_any (stS0 p) 0 w; rw [nm_h HK.out] at this; exact this)
 have SI := kp (show ∀ w, Calls Try.prog 10 #[.agg (cat (partsF (stA0 p))).toArray, .int .i64 0] w (ResR (stA1 p 1 100000, [ms1 p 1], 0) w) from start_okC HK.out (n := 0) now0)
 have SJ := kp (show ∀ w, Calls Try.prog 10 #[.agg (cat (partsF (stA1 p 1 100000))).toArray, .int .i64 0] w (ResR (fw0, [], 20) w) from fun w => by have := start_any (stA1 p 1 100000) 0 w; rw [nm_j HK.out] at this; exact this)
 have SK := kp (show ∀ w, Calls Try.prog 10 #[.agg (cat (partsF (stA0 p))).toArray, .int .i64 (-1)] w (ResR (fw0, [], 2) w) from fun w => by have := start_any (stA0 p) (-1) w; rw [nm_k HK.out] at this; exact this)
 go_enter Try.func5, Try.ntmps5
 generalize h9 : (Code.region 9 _ _ : Code) = R9
 generalize h10 : (Code.region 10 _ _ : Code) = R10
 generalize h11 : (Code.region 11 _ _ : Code) = R11
 generalize h12 : (Code.region 12 _ _ : Code) = R12
 generalize h13 : (Code.region 13 _ _ : Code) = R13
 generalize h16 : (Code.region 16 _ _ : Code) = R16
 generalize h17 : (Code.region 17 _ _ : Code) = R17
 generalize h20 : (Code.region 20 _ _ : Code) = R20
 generalize h21 : (Code.region 21 _ _ : Code) = R21
 generalize h22 : (Code.region 22 _ _ : Code) = R22
 generalize h25 : (Code.region 25 _ _ : Code) = R25
 generalize h27 : (Code.region 27 _ _ : Code) = R27
 generalize h28 : (Code.region 28 _ _ : Code) = R28
 generalize h23 : (Code.region 23 _ _ : Code) = R23
 generalize h24 : (Code.region 24 _ _ : Code) = R24
 generalize h29 : (Code.region 29 _ _ : Code) = R29
 clear HC
 go_wp2_with (first | (go_at_call 24; refine (HS.out _).mono ?_; rintro e wa ⟨rfl, hx⟩; have H2 := kp (H.out.ext hx); have HXC := kp hx; clear H hx; have H := H2; clear H2) | ((with_reducible show wpList _ _ _ (Oper.mk (some 1) (Op.alloc 48) _ _ _ _ :: _) _ _); (refine L_alloc H rfl 48 rfl (cat ([Lf.v (zv 6), Lf.v (zv 6), Lf.v (zv 16), Lf.v (zv 16), Lf.v (zv 16), Lf.v (zv 16), Lf.i .i64 0, Lf.v (zv 16)])) (fun _ _ => by kernel_rfl) ?_); clear H; intro g1 w1 HGg1 HEg1 H; simp only [Act.put, sbA, szA, ssA]) | ((with_reducible refine isSt 48 ?_); refine L_sa H rfl rfl 48 _ _ rfl 0 rfl rfl (partsP p) rfl rfl (by kernel_rfl) ?_; clear H; intro wp HWwp H; simp only [szA] at H) | ((with_reducible refine isLd 48 ?_); refine L_fa H rfl 48 _ rfl 0 rfl rfl Try.underlying48 rfl (by kernel_rfl) ?_; simp only [Act.put, sbA, szA, ssA]) | (go_at_call 25; refine (C2.out _).mono ?_; rintro e wa ⟨rfl, hx⟩; have H2 := kp (H.out.ext hx); have HXC := kp hx; clear H hx; have H := H2; clear H2) | ((with_reducible show wpList _ _ _ (Oper.mk (some 2) (Op.alloc 55) _ _ _ _ :: _) _ _); (refine L_alloc H rfl 55 rfl (cat (parts2 (fw0, fw0))) (fun _ _ => by kernel_rfl) ?_); clear H; intro g2 w2 HGg2 HEg2 H; simp only [Act.put, sbA, szA, ssA]) | ((with_reducible refine isSt 55 ?_); refine L_sa H rfl rfl 55 _ _ rfl 0 rfl rfl (parts2 (stA0 p, stS0 p)) rfl rfl (by kernel_rfl) ?_; clear H; intro wb HWwb H; simp only [szA] at H) | ((with_reducible refine isLd 23 ?_); (refine L_fv H rfl 23 _ rfl 1 rfl _ rfl _ rfl rfl Try.underlying23 rfl (by kernel_rfl) ?_); simp only [Act.put, sbA, szA, ssA]) | ((with_reducible refine isLd 25 ?_); (refine L_fv H rfl 25 _ rfl 1 rfl _ rfl _ rfl rfl Try.underlying25 rfl (by kernel_rfl) ?_); simp only [Act.put, sbA, szA, ssA]) | ((with_reducible refine isLd 26 ?_); (refine L_fv H rfl 26 _ rfl 1 rfl _ rfl _ rfl rfl Try.underlying26 rfl (by kernel_rfl) ?_); simp only [Act.put, sbA, szA, ssA]) | ((with_reducible refine isLd 30 ?_); refine L_fg H rfl 30 _ rfl 1 rfl _ rfl _ rfl (partsG p.gid p.gkey) rfl Try.underlying30 rfl (by kernel_rfl) ?_; simp only [Act.put, sbA, szA, ssA]) | ((with_reducible show wpList _ _ _ (Oper.mk _ (Op.build 30 _) _ _ _ _ :: _) _ _); (refine L_bd rfl 30 _ rfl #[] (by kernel_rfl) (cat (partsG 0 (zv 16))) (fun _ => by kernel_rfl) ?_); simp only [Act.put, sbA, szA, ssA]) | (go_at_call 20; (first | with_reducible refine (N1.out _).mono ?_ | with_reducible refine (N2.out _).mono ?_ | with_reducible refine (N3.out _).mono ?_); rintro e wa ⟨rfl, hx⟩; have H2 := kp (H.out.ext hx); have HXC := kp hx; clear H hx; have H := H2; clear H2) | ((with_reducible show wpList _ _ _ (Oper.mk (some 4) (Op.alloc 32) _ _ _ _ :: _) _ _); (refine L_alloc H rfl 32 rfl (cat (partsF fw0)) (fun _ _ => by kernel_rfl) ?_); clear H; intro g4 w4 HGg4 HEg4 H; simp only [Act.put, sbA, szA, ssA]) | ((with_reducible show wpList _ _ _ (Oper.mk (some 6) (Op.alloc 32) _ _ _ _ :: _) _ _); (refine L_alloc H rfl 32 rfl (cat (partsF fw0)) (fun _ _ => by kernel_rfl) ?_); clear H; intro g6 w6 HGg6 HEg6 H; simp only [Act.put, sbA, szA, ssA]) | ((with_reducible show wpList _ _ _ (Oper.mk (some 8) (Op.alloc 32) _ _ _ _ :: _) _ _); (refine L_alloc H rfl 32 rfl (cat (partsF fw0)) (fun _ _ => by kernel_rfl) ?_); clear H; intro g8 w8 HGg8 HEg8 H; simp only [Act.put, sbA, szA, ssA]) | ((with_reducible show wpList _ _ _ (Oper.mk (some 10) (Op.alloc 32) _ _ _ _ :: _) _ _); (refine L_alloc H rfl 32 rfl (cat (partsF fw0)) (fun _ _ => by kernel_rfl) ?_); clear H; intro g10 w10 HGg10 HEg10 H; simp only [Act.put, sbA, szA, ssA]) | ((with_reducible show wpList _ _ _ (Oper.mk none (Op.store 32 (.tmp 4) _) _ _ _ _ :: _) _ _); ((with_reducible refine isSt 32 ?_); refine L_sa H rfl rfl 32 _ _ rfl 0 rfl rfl (partsF fw0) rfl rfl (by kernel_rfl) ?_; clear H; intro v4 HWv4 H; simp only [szA] at H); have H2 := kp (Loc.tail H.out); clear H; have H := H2; clear H2) | ((with_reducible show wpList _ _ _ (Oper.mk none (Op.store 32 (.tmp 6) _) _ _ _ _ :: _) _ _); ((with_reducible refine isSt 32 ?_); refine L_sa H rfl rfl 32 _ _ rfl 0 rfl rfl (partsF fw0) rfl rfl (by kernel_rfl) ?_; clear H; intro v6 HWv6 H; simp only [szA] at H); have H2 := kp (Loc.tail H.out); clear H; have H := H2; clear H2) | ((with_reducible show wpList _ _ _ (Oper.mk none (Op.store 32 (.tmp 8) _) _ _ _ _ :: _) _ _); ((with_reducible refine isSt 32 ?_); refine L_sa H rfl rfl 32 _ _ rfl 0 rfl rfl (partsF fw0) rfl rfl (by kernel_rfl) ?_; clear H; intro v8 HWv8 H; simp only [szA] at H); have H2 := kp (Loc.tail H.out); clear H; have H := H2; clear H2) | ((with_reducible show wpList _ _ _ (Oper.mk none (Op.store 32 (.tmp 10) _) _ _ _ _ :: _) _ _); ((with_reducible refine isSt 32 ?_); refine L_sa H rfl rfl 32 _ _ rfl 0 rfl rfl (partsF fw0) rfl rfl (by kernel_rfl) ?_; clear H; intro v10 HWv10 H; simp only [szA] at H); have H2 := kp (Loc.tail H.out); clear H; have H := H2; clear H2) | ((with_reducible refine isLd 32 ?_); refine L_fg H rfl 32 _ rfl 0 rfl _ rfl _ rfl (partsF (stS0 p)) rfl Try.underlying32 rfl (by kernel_rfl) ?_; simp only [Act.put, sbA, szA, ssA]) | (go_at_call 10; refine (SH.out _).mono ?_; rintro e wa ⟨v, rfl, hs, hx⟩; clear hs; have H2 := kp (H.out.ext hx); have HXC := kp hx; clear H hx; have H := H2; clear H2))
 subst h9
 go_wp2_with (first | ((with_reducible refine isLd 32 ?_); refine L_fg H rfl 32 _ rfl 0 rfl _ rfl _ rfl (partsF (stA0 p)) rfl Try.underlying32 rfl (by kernel_rfl) ?_; simp only [Act.put, sbA, szA, ssA]) | (go_at_call 10; refine (SI.out _).mono ?_; rintro e wa ⟨v13, rfl, hs, hx⟩; have HSA := kp hs; clear hs; have H2 := kp (H.out.ext hx); have HXC := kp hx; clear H hx; have H := H2; clear H2) | ((with_reducible show wpList _ _ _ (Oper.mk (some 13) (Op.alloc 32) _ _ _ _ :: _) _ _); (refine L_alloc H rfl 32 rfl (cat (partsF fw0)) (fun _ _ => by kernel_rfl) ?_); clear H; intro g13 w13 HGg13 HEg13 H; simp only [Act.put, sbA, szA, ssA]) | ((with_reducible refine isSt 32 ?_); refine L_sa H rfl rfl 32 _ _ rfl 0 rfl rfl (partsF (stA1 p 1 100000)) rfl rfl (by kernel_rfl) ?_; clear H; intro v14 HWv14 H; simp only [szA] at H))
 obtain ⟨b, c, u, rfl, hoo⟩ := OneO.of (HSA.out.past HEg13.out HWv14.out (Nat.le_of_eq HGg13.out.symm))
 obtain ⟨-, -, B1, ho1⟩ := id hoo
 obtain ⟨um, uc, rfl⟩ := owns_form ho1
 have HO1 := kp hoo
 clear hoo ho1 HSA
 have HC := kp (Chg.refl v14)
 have HZ42 := kp (show ∀ B v W, W.ownsRow B 5 1 v (List.replicate 42 0#8).length ((List.replicate 42 0#8).map V8) → Calls Try.prog 15 #[.agg (cat (partsF (stS0 p))).toArray, v, .int .i64 0] W (ResR (fw0, [], 10) W) from fun B v W h => by have := handle_own (stS0 p) (List.replicate 42 0#8) (by decide) 0 B v W h; rw [nm_l HK.out] at this; exact this)
 have HZ43 := kp (show ∀ B v W, W.ownsRow B 5 1 v (List.replicate 43 0#8).length ((List.replicate 43 0#8).map V8) → Calls Try.prog 15 #[.agg (cat (partsF (stS0 p))).toArray, v, .int .i64 0] W (ResR (fw0, [], 12) W) from fun B v W h => by have := handle_own (stS0 p) (List.replicate 43 0#8) (by decide) 0 B v W h; rw [nm_m HK.out] at this; exact this)
 subst h10
 go_wp2_with (first | ((with_reducible refine isLd 32 ?_); refine L_fa H rfl 32 _ rfl 0 rfl rfl Try.underlying32 rfl (by kernel_rfl) ?_; simp only [Act.put, sbA, szA, ssA]) | (go_at_call 10; refine (SJ.out _).mono ?_; rintro e wa ⟨v, rfl, hs, hx⟩; clear hs; have HC2 := kp (HC.out.ext hx); clear HC; have HC := HC2; clear HC2; have H2 := kp (H.out.ext hx); have HXC := kp hx; clear H hx; have H := H2; clear H2) | (((with_reducible show wpList _ _ _ (Oper.mk (some 16) (Op.alloc 32) _ _ _ _ :: _) _ _); (refine L_alloc H rfl 32 rfl (cat (partsF fw0)) (fun _ _ => by kernel_rfl) ?_); clear H; intro g16 w16 HGg16 HEg16 H; simp only [Act.put, sbA, szA, ssA]); have HLg16 := kp (Nat.le_trans HC.out.1 (Nat.le_of_eq HGg16.out.symm)); have HC2 := kp (HC.out.ext HEg16.out); clear HC; have HC := HC2; clear HC2) | (((with_reducible show wpList _ _ _ (Oper.mk none (Op.store 32 (.tmp 16) _) _ _ _ _ :: _) _ _); ((with_reducible refine isSt 32 ?_); refine L_sa H rfl rfl 32 _ _ rfl 0 rfl rfl (partsF fw0) rfl rfl (by kernel_rfl) ?_; clear H; intro v16 HWv16 H; simp only [szA] at H); have HC2 := kp (HC.out.wrote HWv16.out HLg16.out); clear HC; have HC := HC2; clear HC2); have H2 := kp (Loc.tail H.out); clear H; have H := H2; clear H2))
 subst h11
 go_wp2_with (first | ((with_reducible refine isLd 32 ?_); refine L_fg H rfl 32 _ rfl 1 rfl _ rfl _ rfl (partsF (stA0 p)) rfl Try.underlying32 rfl (by kernel_rfl) ?_; simp only [Act.put, sbA, szA, ssA]) | (go_at_call 10; refine (SK.out _).mono ?_; rintro e wa ⟨v, rfl, hs, hx⟩; clear hs; have HC2 := kp (HC.out.ext hx); clear HC; have HC := HC2; clear HC2; have H2 := kp (H.out.ext hx); have HXC := kp hx; clear H hx; have H := H2; clear H2) | (((with_reducible show wpList _ _ _ (Oper.mk (some 19) (Op.alloc 32) _ _ _ _ :: _) _ _); (refine L_alloc H rfl 32 rfl (cat (partsF fw0)) (fun _ _ => by kernel_rfl) ?_); clear H; intro g19 w19 HGg19 HEg19 H; simp only [Act.put, sbA, szA, ssA]); have HLg19 := kp (Nat.le_trans HC.out.1 (Nat.le_of_eq HGg19.out.symm)); have HC2 := kp (HC.out.ext HEg19.out); clear HC; have HC := HC2; clear HC2) | (((with_reducible show wpList _ _ _ (Oper.mk none (Op.store 32 (.tmp 19) _) _ _ _ _ :: _) _ _); ((with_reducible refine isSt 32 ?_); refine L_sa H rfl rfl 32 _ _ rfl 0 rfl rfl (partsF fw0) rfl rfl (by kernel_rfl) ?_; clear H; intro v19 HWv19 H; simp only [szA] at H); have HC2 := kp (HC.out.wrote HWv19.out HLg19.out); clear HC; have HC := HC2; clear HC2); have H2 := kp (Loc.tail H.out); clear H; have H := H2; clear H2))
 subst h12
 refine region_freeN H (tabS [(125, fun vQ _ => vQ = .pointer (some ⟨g2, 131, none⟩)), (126, fun vQ _ => vQ = .agg (cat (partsF (stS0 p))).toArray), (127, fun vQ wQ => ZB (List.replicate 42 0#8) vQ wQ), (128, fun vQ wQ => TupR (v19).heap.size (fw0, [], 10) vQ wQ), (124, fun vQ wQ => TupR (v19).heap.size (fw0, [], 10) vQ wQ), (129, fun vQ _ => vQ = .agg (cat (partsF fw0)).toArray), (130, fun vQ wQ => SlBB (v19).heap.size wQ vQ []), (131, fun vQ _ => vQ = .int .i64 10), (23, fun vQ wQ => SlBB (v19).heap.size wQ vQ [])]) 8 9 22 129 32 (cat (partsF fw0)) (cat (partsF fw0)) 11 (tabS_trn _ _ _ (by simp only [List.forall_mem_cons]; exact ⟨monoN_eq _ _ _, monoN_eq _ _ _, (monoN_ZB _ _), (monoN_TupR _ _ _), (monoN_TupR _ _ _), monoN_eq _ _ _, (monoN_SlBB _ _ _), monoN_eq _ _ _, (monoN_SlBB _ _ _), by simp⟩)) (fun _ _ => trivial) (fun _ _ h => h) (by kernel_rfl) (by kernel_rfl) (by kernel_rfl) (by kernel_rfl) _ _ rfl rfl (by decide) (by decide) (by decide) rfl rfl rfl (fun _ => by kernel_rfl) rfl rfl rfl (by kernel_rfl) (by kernel_rfl) (by kernel_rfl) (sizeFw _) (len_F _ _) (by simpa using cat_one (partsF fw0)) (by kernel_rfl) ?_
 simp only [List.take_succ_cons, List.take_zero]
 refine ⟨fun _ w_ o_ S_ => ?_, fun v125 => ?_⟩
 ·clear S_
  clear o_
  go_wp2_with fail
  exact kso rfl rfl rfl
 simp only [Act.put, sbA, szA, ssA]
 refine ⟨fun _ w_ o_ S_ => ?_, fun v126 => ?_⟩
 ·obtain rfl : v125 = .pointer (some ⟨g2, 131, none⟩) := hsR S_ 125 rfl
  clear S_
  have H := kp (H.out.ext o_)
  have HOX := kp o_
  clear o_
  go_wp2_with ((with_reducible refine isLd 32 ?_); refine L_fg H rfl 32 _ rfl 1 rfl _ rfl _ rfl (partsF (stS0 p)) rfl Try.underlying32 rfl (by kernel_rfl) ?_; simp only [Act.put, sbA, szA, ssA])
  exact kso rfl rfl rfl
 simp only [Act.put, sbA, szA, ssA]
 refine ⟨fun _ w_ o_ S_ => ?_, fun v127 => ?_⟩
 ·clear S_
  have H := kp (H.out.ext o_)
  have HOX := kp o_
  clear o_
  go_wp2_with ((with_reducible show wpList _ _ _ (Oper.mk (some 127) (Op.makeSlice 33 _ _) _ _ _ _ :: _) _ _); (refine L_mk H (by kernel_rfl) 33 _ _ rfl (.int .i64 42) (.int .i64 42) rfl rfl 42 42 5 ((List.replicate 42 0#8).map V8) (fun _ => by kernel_rfl) ?_); clear H; intro gm wm HGgm HEgm H; simp only [Act.put, sbA, szA, ssA])
  exact ⟨rfl, _, rfl, fun d hd => by cases hd; exact ⟨gm, owns_lit (H.out.at 0 rfl) (Nat.le_refl _) 42 rfl (by decide)⟩, HEgm.out⟩
 simp only [Act.put, sbA, szA, ssA]
 refine ⟨fun _ w_ o_ S_ => ?_, fun v128 => ?_⟩
 ·obtain rfl : v126 = .agg (cat (partsF (stS0 p))).toArray := hsR S_ 126 rfl
  have h127 := kp (show ZB (List.replicate 42 0#8) v127 w_ from hsR S_ 127 rfl)
  clear S_
  have H := kp (H.out.ext o_)
  have HOX := kp o_
  clear o_
  obtain ⟨B9, ho9⟩ := h127.out
  have HO9 := kp ho9
  clear ho9
  go_wp2_with fail
  refine (HZ42.out _ _ _ HO9.out).mono ?_
  rintro e w2 ⟨u, rfl, hs, hx⟩
  have HSL := kp (hs.weak HOX.out.size)
  have HXC := kp hx
  clear hs hx
  go_wp2_with fail
  exact ⟨rfl, _, rfl, fun d hd => by cases hd; exact ⟨_, rfl, HSL.out⟩, HXC.out⟩
 simp only [Act.put, sbA, szA, ssA]
 refine ⟨fun _ w_ o_ S_ => ?_, fun v124 => ?_⟩
 ·have h128 := kp (show TupR (v19).heap.size (fw0, [], 10) v128 w_ from hsR S_ 128 rfl)
  clear S_ o_
  go_wp2_with fail
  exact ⟨rfl, _, rfl, fun d hd => by cases hd; exact h128.out, Ext.refl _⟩
 simp only [Act.put, sbA, szA, ssA]
 refine ⟨fun _ w_ o_ S_ => ?_, fun v129 => ?_⟩
 ·have h124 := kp (show TupR (v19).heap.size (fw0, [], 10) v124 w_ from hsR S_ 124 rfl)
  clear S_
  have H := kp (H.out.ext o_)
  have HOX := kp o_
  clear o_
  obtain ⟨u, rfl, hs⟩ := h124.out
  clear hs
  go_wp2_with fail
  exact kso rfl rfl rfl
 simp only [Act.put, sbA, szA, ssA]
 refine ⟨fun _ w_ o_ S_ => ?_, fun v130 => ?_⟩
 ·have h124 := kp (show TupR (v19).heap.size (fw0, [], 10) v124 w_ from hsR S_ 124 rfl)
  clear S_
  have H := kp (H.out.ext o_)
  have HOX := kp o_
  clear o_
  obtain ⟨u, rfl, hs⟩ := h124.out
  have HSL := kp hs
  clear hs
  go_wp2_with fail
  exact ⟨rfl, _, rfl, fun d hd => by cases hd; exact HSL.out, Ext.refl _⟩
 simp only [Act.put, sbA, szA, ssA]
 refine ⟨fun _ w_ o_ S_ => ?_, fun v131 => ?_⟩
 ·have h124 := kp (show TupR (v19).heap.size (fw0, [], 10) v124 w_ from hsR S_ 124 rfl)
  clear S_
  have H := kp (H.out.ext o_)
  have HOX := kp o_
  clear o_
  obtain ⟨u, rfl, hs⟩ := h124.out
  clear hs
  go_wp2_with fail
  exact kso rfl rfl rfl
 simp only [Act.put, sbA, szA, ssA]
 refine ⟨(fun h => by cases h), fun v22 => ?_⟩
 simp only [Act.put, sbA, szA, ssA]
 refine ⟨(fun h => by cases h), fun _ => ?_⟩
 refine ⟨fun _ w_ o_ S_ => ?_, fun v23 => ?_⟩
 ·have h130 := kp (show SlBB (v19).heap.size w_ v130 [] from hsR S_ 130 rfl)
  clear S_ o_
  go_wp2_with fail
  exact ⟨rfl, _, rfl, fun d hd => by cases hd; exact h130.out, Ext.refl _⟩
 simp only [Act.put, sbA, szA, ssA]
 clear H
 intro wB HOX hfin hvar
 obtain ⟨gz, hvg, hvb, hvl, H⟩ := hvar
 have HBgz := kp hvb
 clear hvb hvl
 obtain rfl : v22 = .pointer (some ⟨gz, 0, none⟩) := hvg
 obtain rfl : v125 = .pointer (some ⟨g2, 131, none⟩) := hfin 125 (by decide)
 obtain rfl : v126 = .agg (cat (partsF (stS0 p))).toArray := hfin 126 (by decide)
 have F127 := kp (show ZB (List.replicate 42 0#8) v127 wB from hfin 127 (by decide))
 have F128 := kp (show TupR (v19).heap.size (fw0, [], 10) v128 wB from hfin 128 (by decide))
 have F124 := kp (show TupR (v19).heap.size (fw0, [], 10) v124 wB from hfin 124 (by decide))
 obtain rfl : v129 = .agg (cat (partsF fw0)).toArray := hfin 129 (by decide)
 have F130 := kp (show SlBB (v19).heap.size wB v130 [] from hfin 130 (by decide))
 obtain rfl : v131 = .int .i64 10 := hfin 131 (by decide)
 have F23 := kp (show SlBB (v19).heap.size wB v23 [] from hfin 23 (by decide))
 clear hfin
 simp only [List.drop_succ_cons, List.drop_zero]
 try simp only [applyS] at H
 have HXN := HOX
 have HC2 := kp (HC.out.ext HXN.out)
 clear HC
 have HC := HC2
 clear HC2
 have H2 := kp (Loc.tail H.out); clear H; have H := H2; clear H2
 go_wp2_with fail
 subst h13
 refine region_freeN H (tabS [(133, fun vQ _ => vQ = .pointer (some ⟨g2, 131, none⟩)), (134, fun vQ _ => vQ = .agg (cat (partsF (stS0 p))).toArray), (135, fun vQ wQ => ZB (List.replicate 43 0#8) vQ wQ), (136, fun vQ wQ => TupR (wB).heap.size (fw0, [], 12) vQ wQ), (132, fun vQ wQ => TupR (wB).heap.size (fw0, [], 12) vQ wQ), (137, fun vQ _ => vQ = .agg (cat (partsF fw0)).toArray), (138, fun vQ wQ => SlBB (wB).heap.size wQ vQ []), (139, fun vQ _ => vQ = .int .i64 12), (26, fun vQ wQ => SlBB (wB).heap.size wQ vQ [])]) 8 9 25 137 32 (cat (partsF fw0)) (cat (partsF fw0)) 11 (tabS_trn _ _ _ (by simp only [List.forall_mem_cons]; exact ⟨monoN_eq _ _ _, monoN_eq _ _ _, (monoN_ZB _ _), (monoN_TupR _ _ _), (monoN_TupR _ _ _), monoN_eq _ _ _, (monoN_SlBB _ _ _), monoN_eq _ _ _, (monoN_SlBB _ _ _), by simp⟩)) (fun _ _ => trivial) (fun _ _ h => h) (by kernel_rfl) (by kernel_rfl) (by kernel_rfl) (by kernel_rfl) _ _ rfl rfl (by decide) (by decide) (by decide) rfl rfl rfl (fun _ => by kernel_rfl) rfl rfl rfl (by kernel_rfl) (by kernel_rfl) (by kernel_rfl) (sizeFw _) (len_F _ _) (by simpa using cat_one (partsF fw0)) (by kernel_rfl) ?_
 simp only [List.take_succ_cons, List.take_zero]
 refine ⟨fun _ w_ o_ S_ => ?_, fun v133 => ?_⟩
 ·clear S_
  clear o_
  go_wp2_with fail
  exact kso rfl rfl rfl
 simp only [Act.put, sbA, szA, ssA]
 refine ⟨fun _ w_ o_ S_ => ?_, fun v134 => ?_⟩
 ·obtain rfl : v133 = .pointer (some ⟨g2, 131, none⟩) := hsR S_ 133 rfl
  clear S_
  have H := kp (H.out.ext o_)
  have HOX := kp o_
  clear o_
  go_wp2_with ((with_reducible refine isLd 32 ?_); refine L_fg H rfl 32 _ rfl 1 rfl _ rfl _ rfl (partsF (stS0 p)) rfl Try.underlying32 rfl (by kernel_rfl) ?_; simp only [Act.put, sbA, szA, ssA])
  exact kso rfl rfl rfl
 simp only [Act.put, sbA, szA, ssA]
 refine ⟨fun _ w_ o_ S_ => ?_, fun v135 => ?_⟩
 ·clear S_
  have H := kp (H.out.ext o_)
  have HOX := kp o_
  clear o_
  go_wp2_with ((with_reducible show wpList _ _ _ (Oper.mk (some 135) (Op.makeSlice 33 _ _) _ _ _ _ :: _) _ _); (refine L_mk H (by kernel_rfl) 33 _ _ rfl (.int .i64 43) (.int .i64 43) rfl rfl 43 43 5 ((List.replicate 43 0#8).map V8) (fun _ => by kernel_rfl) ?_); clear H; intro gm wm HGgm HEgm H; simp only [Act.put, sbA, szA, ssA])
  exact ⟨rfl, _, rfl, fun d hd => by cases hd; exact ⟨gm, owns_lit (H.out.at 0 rfl) (Nat.le_refl _) 43 rfl (by decide)⟩, HEgm.out⟩
 simp only [Act.put, sbA, szA, ssA]
 refine ⟨fun _ w_ o_ S_ => ?_, fun v136 => ?_⟩
 ·obtain rfl : v134 = .agg (cat (partsF (stS0 p))).toArray := hsR S_ 134 rfl
  have h135 := kp (show ZB (List.replicate 43 0#8) v135 w_ from hsR S_ 135 rfl)
  clear S_
  have H := kp (H.out.ext o_)
  have HOX := kp o_
  clear o_
  obtain ⟨B9, ho9⟩ := h135.out
  have HO9 := kp ho9
  clear ho9
  go_wp2_with fail
  refine (HZ43.out _ _ _ HO9.out).mono ?_
  rintro e w2 ⟨u, rfl, hs, hx⟩
  have HSL := kp (hs.weak HOX.out.size)
  have HXC := kp hx
  clear hs hx
  go_wp2_with fail
  exact ⟨rfl, _, rfl, fun d hd => by cases hd; exact ⟨_, rfl, HSL.out⟩, HXC.out⟩
 simp only [Act.put, sbA, szA, ssA]
 refine ⟨fun _ w_ o_ S_ => ?_, fun v132 => ?_⟩
 ·have h136 := kp (show TupR (wB).heap.size (fw0, [], 12) v136 w_ from hsR S_ 136 rfl)
  clear S_ o_
  go_wp2_with fail
  exact ⟨rfl, _, rfl, fun d hd => by cases hd; exact h136.out, Ext.refl _⟩
 simp only [Act.put, sbA, szA, ssA]
 refine ⟨fun _ w_ o_ S_ => ?_, fun v137 => ?_⟩
 ·have h132 := kp (show TupR (wB).heap.size (fw0, [], 12) v132 w_ from hsR S_ 132 rfl)
  clear S_
  have H := kp (H.out.ext o_)
  have HOX := kp o_
  clear o_
  obtain ⟨u, rfl, hs⟩ := h132.out
  clear hs
  go_wp2_with fail
  exact kso rfl rfl rfl
 simp only [Act.put, sbA, szA, ssA]
 refine ⟨fun _ w_ o_ S_ => ?_, fun v138 => ?_⟩
 ·have h132 := kp (show TupR (wB).heap.size (fw0, [], 12) v132 w_ from hsR S_ 132 rfl)
  clear S_
  have H := kp (H.out.ext o_)
  have HOX := kp o_
  clear o_
  obtain ⟨u, rfl, hs⟩ := h132.out
  have HSL := kp hs
  clear hs
  go_wp2_with fail
  exact ⟨rfl, _, rfl, fun d hd => by cases hd; exact HSL.out, Ext.refl _⟩
 simp only [Act.put, sbA, szA, ssA]
 refine ⟨fun _ w_ o_ S_ => ?_, fun v139 => ?_⟩
 ·have h132 := kp (show TupR (wB).heap.size (fw0, [], 12) v132 w_ from hsR S_ 132 rfl)
  clear S_
  have H := kp (H.out.ext o_)
  have HOX := kp o_
  clear o_
  obtain ⟨u, rfl, hs⟩ := h132.out
  clear hs
  go_wp2_with fail
  exact kso rfl rfl rfl
 simp only [Act.put, sbA, szA, ssA]
 refine ⟨(fun h => by cases h), fun v25 => ?_⟩
 simp only [Act.put, sbA, szA, ssA]
 refine ⟨(fun h => by cases h), fun _ => ?_⟩
 refine ⟨fun _ w_ o_ S_ => ?_, fun v26 => ?_⟩
 ·have h138 := kp (show SlBB (wB).heap.size w_ v138 [] from hsR S_ 138 rfl)
  clear S_ o_
  go_wp2_with fail
  exact ⟨rfl, _, rfl, fun d hd => by cases hd; exact h138.out, Ext.refl _⟩
 simp only [Act.put, sbA, szA, ssA]
 clear H
 intro wD HOX hfin hvar
 obtain ⟨gz, hvg, hvb, hvl, H⟩ := hvar
 have HBgz := kp hvb
 clear hvb hvl
 obtain rfl : v25 = .pointer (some ⟨gz, 0, none⟩) := hvg
 obtain rfl : v133 = .pointer (some ⟨g2, 131, none⟩) := hfin 133 (by decide)
 obtain rfl : v134 = .agg (cat (partsF (stS0 p))).toArray := hfin 134 (by decide)
 have F135 := kp (show ZB (List.replicate 43 0#8) v135 wD from hfin 135 (by decide))
 have F136 := kp (show TupR (wB).heap.size (fw0, [], 12) v136 wD from hfin 136 (by decide))
 have F132 := kp (show TupR (wB).heap.size (fw0, [], 12) v132 wD from hfin 132 (by decide))
 obtain rfl : v137 = .agg (cat (partsF fw0)).toArray := hfin 137 (by decide)
 have F138 := kp (show SlBB (wB).heap.size wD v138 [] from hfin 138 (by decide))
 obtain rfl : v139 = .int .i64 12 := hfin 139 (by decide)
 have F26 := kp (show SlBB (wB).heap.size wD v26 [] from hfin 26 (by decide))
 clear hfin
 simp only [List.drop_succ_cons, List.drop_zero]
 try simp only [applyS] at H
 have HXN := HOX
 have HC2 := kp (HC.out.ext HXN.out)
 clear HC
 have HC := HC2
 clear HC2
 have H2 := kp (Loc.tail H.out); clear H; have H := H2; clear H2
 go_wp2_with fail
 obtain ⟨hb, hc, B0, ho⟩ := (HO1.out.chg HC.out)
 have HCE := kp (show ∀ W, Ext wD W → W.cell? ⟨b, 0, none⟩ = some (.slice um 43 uc) from fun W hx => by
  have := (hx.cell hb).trans hc
  rwa [ms1_len] at this)
 have HHA := kp (show ∀ (s : Fw) W, Ext wD W → Calls Try.prog 15 #[.agg (cat (partsF s)).toArray, .slice um 43 uc, .int .i64 0] W (ResR (handleF s (ms1 p 1) 0) W) from fun s W hx => by
  have := handle_own s (ms1 p 1) (by rw [ms1_len]; decide) 0 _ _ W (owns_ext ho hx)
  rwa [ms1_len] at this)
 clear hb hc ho B0
 have HHR := kp (show ∀ W, Ext wD W → Calls Try.prog 15 #[.agg (cat (partsF (stA1 p 1 100000))).toArray, .slice um 43 uc, .int .i64 0] W (ResR (fw0, [], 20) W) from fun W hx => by have := HHA.out (stA1 p 1 100000) W hx; rw [nm_n HK.out] at this; exact this)
 subst h16
 refine region_freeN H (tabS [(148, fun vQ _ => vQ = .agg (cat (partsF (stA1 p 1 100000))).toArray), (149, fun vQ _ => vQ = .slice (some ⟨b, 0, none⟩) 1 c), (150, fun vQ _ => vQ = .pointer (some ⟨b, 0, none⟩)), (151, fun vQ _ => vQ = .slice um 43 uc), (152, fun vQ wQ => TupR (wD).heap.size (fw0, [], 20) vQ wQ), (147, fun vQ wQ => TupR (wD).heap.size (fw0, [], 20) vQ wQ), (153, fun vQ _ => vQ = .agg (cat (partsF (fw0))).toArray), (154, fun vQ wQ => SlBB (wD).heap.size wQ vQ []), (155, fun vQ _ => vQ = .int .i64 20), (29, fun vQ wQ => SlBB (wD).heap.size wQ vQ [])]) 9 10 28 153 32 (cat (partsF fw0)) (cat (partsF (fw0))) 12 (tabS_trn _ _ _ (by simp only [List.forall_mem_cons]; exact ⟨monoN_eq _ _ _, monoN_eq _ _ _, monoN_eq _ _ _, monoN_eq _ _ _, (monoN_TupR _ _ _), (monoN_TupR _ _ _), monoN_eq _ _ _, (monoN_SlBB _ _ _), monoN_eq _ _ _, (monoN_SlBB _ _ _), by simp⟩)) (fun _ _ => trivial) (fun _ _ h => h) (by kernel_rfl) (by kernel_rfl) (by kernel_rfl) (by kernel_rfl) _ _ rfl rfl (by decide) (by decide) (by decide) rfl rfl rfl (fun _ => by kernel_rfl) rfl rfl rfl (by kernel_rfl) (by kernel_rfl) (by kernel_rfl) (sizeFw _) (len_F _ _) (by simpa using cat_one (partsF (fw0))) (by kernel_rfl) ?_
 simp only [List.take_succ_cons, List.take_zero]
 refine ⟨fun _ w_ o_ S_ => ?_, fun v148 => ?_⟩
 ·clear S_
  have H := kp (H.out.ext o_)
  have HOX := kp o_
  clear o_
  go_wp2_with ((with_reducible refine isLd 32 ?_); refine L_fa H rfl 32 _ rfl 0 rfl rfl Try.underlying32 rfl (by kernel_rfl) ?_; simp only [Act.put, sbA, szA, ssA])
  exact kso rfl rfl rfl
 simp only [Act.put, sbA, szA, ssA]
 refine ⟨fun _ w_ o_ S_ => ?_, fun v149 => ?_⟩
 ·clear S_
  clear o_
  go_wp2_with fail
  exact kso rfl rfl rfl
 simp only [Act.put, sbA, szA, ssA]
 refine ⟨fun _ w_ o_ S_ => ?_, fun v150 => ?_⟩
 ·obtain rfl : v149 = .slice (some ⟨b, 0, none⟩) 1 c := hsR S_ 149 rfl
  clear S_ o_
  go_wp2_with fail
  exact kso rfl rfl rfl
 simp only [Act.put, sbA, szA, ssA]
 refine ⟨fun _ w_ o_ S_ => ?_, fun v151 => ?_⟩
 ·obtain rfl : v150 = .pointer (some ⟨b, 0, none⟩) := hsR S_ 150 rfl
  clear S_
  have H := kp (H.out.ext o_)
  have HOX := kp o_
  clear o_
  have hc := HCE.out _ HOX.out
  go_wp2_with fail
  exact kso rfl rfl rfl
 simp only [Act.put, sbA, szA, ssA]
 refine ⟨fun _ w_ o_ S_ => ?_, fun v152 => ?_⟩
 ·obtain rfl : v148 = .agg (cat (partsF (stA1 p 1 100000))).toArray := hsR S_ 148 rfl
  obtain rfl : v151 = .slice um 43 uc := hsR S_ 151 rfl
  clear S_
  have H := kp (H.out.ext o_)
  have HOX := kp o_
  clear o_
  go_wp2_with fail
  refine (HHR.out _ HOX.out).mono ?_
  rintro e w2 ⟨u, rfl, hs, hx⟩
  have HSL := kp (hs.weak HOX.out.size)
  have HXC := kp hx
  clear hs hx
  go_wp2_with fail
  exact ⟨rfl, _, rfl, fun d hd => by cases hd; exact ⟨_, rfl, HSL.out⟩, HXC.out⟩
 simp only [Act.put, sbA, szA, ssA]
 refine ⟨fun _ w_ o_ S_ => ?_, fun v147 => ?_⟩
 ·have h152 := kp (show TupR (wD).heap.size (fw0, [], 20) v152 w_ from hsR S_ 152 rfl)
  clear S_ o_
  go_wp2_with fail
  exact ⟨rfl, _, rfl, fun d hd => by cases hd; exact h152.out, Ext.refl _⟩
 simp only [Act.put, sbA, szA, ssA]
 refine ⟨fun _ w_ o_ S_ => ?_, fun v153 => ?_⟩
 ·have h147 := kp (show TupR (wD).heap.size (fw0, [], 20) v147 w_ from hsR S_ 147 rfl)
  clear S_
  have H := kp (H.out.ext o_)
  have HOX := kp o_
  clear o_
  obtain ⟨u, rfl, hs⟩ := h147.out
  clear hs
  go_wp2_with fail
  exact kso rfl rfl rfl
 simp only [Act.put, sbA, szA, ssA]
 refine ⟨fun _ w_ o_ S_ => ?_, fun v154 => ?_⟩
 ·have h147 := kp (show TupR (wD).heap.size (fw0, [], 20) v147 w_ from hsR S_ 147 rfl)
  clear S_
  have H := kp (H.out.ext o_)
  have HOX := kp o_
  clear o_
  obtain ⟨u, rfl, hs⟩ := h147.out
  have HSL := kp hs
  clear hs
  go_wp2_with fail
  exact ⟨rfl, _, rfl, fun d hd => by cases hd; exact HSL.out, Ext.refl _⟩
 simp only [Act.put, sbA, szA, ssA]
 refine ⟨fun _ w_ o_ S_ => ?_, fun v155 => ?_⟩
 ·have h147 := kp (show TupR (wD).heap.size (fw0, [], 20) v147 w_ from hsR S_ 147 rfl)
  clear S_
  have H := kp (H.out.ext o_)
  have HOX := kp o_
  clear o_
  obtain ⟨u, rfl, hs⟩ := h147.out
  clear hs
  go_wp2_with fail
  exact kso rfl rfl rfl
 simp only [Act.put, sbA, szA, ssA]
 refine ⟨(fun h => by cases h), fun v28 => ?_⟩
 simp only [Act.put, sbA, szA, ssA]
 refine ⟨(fun h => by cases h), fun _ => ?_⟩
 refine ⟨fun _ w_ o_ S_ => ?_, fun v29 => ?_⟩
 ·have h154 := kp (show SlBB (wD).heap.size w_ v154 [] from hsR S_ 154 rfl)
  clear S_ o_
  go_wp2_with fail
  exact ⟨rfl, _, rfl, fun d hd => by cases hd; exact h154.out, Ext.refl _⟩
 simp only [Act.put, sbA, szA, ssA]
 clear H
 intro wF HOX hfin hvar
 obtain ⟨gz, hvg, hvb, hvl, H⟩ := hvar
 have HBgz := kp hvb
 clear hvb hvl
 obtain rfl : v28 = .pointer (some ⟨gz, 0, none⟩) := hvg
 obtain rfl : v148 = .agg (cat (partsF (stA1 p 1 100000))).toArray := hfin 148 (by decide)
 obtain rfl : v149 = .slice (some ⟨b, 0, none⟩) 1 c := hfin 149 (by decide)
 obtain rfl : v150 = .pointer (some ⟨b, 0, none⟩) := hfin 150 (by decide)
 obtain rfl : v151 = .slice um 43 uc := hfin 151 (by decide)
 have F152 := kp (show TupR (wD).heap.size (fw0, [], 20) v152 wF from hfin 152 (by decide))
 have F147 := kp (show TupR (wD).heap.size (fw0, [], 20) v147 wF from hfin 147 (by decide))
 obtain rfl : v153 = .agg (cat (partsF (fw0))).toArray := hfin 153 (by decide)
 have F154 := kp (show SlBB (wD).heap.size wF v154 [] from hfin 154 (by decide))
 obtain rfl : v155 = .int .i64 20 := hfin 155 (by decide)
 have F29 := kp (show SlBB (wD).heap.size wF v29 [] from hfin 29 (by decide))
 clear hfin
 simp only [List.drop_succ_cons, List.drop_zero]
 try simp only [applyS] at H
 have HXN := HOX
 have HC2 := kp (HC.out.ext HXN.out)
 clear HC
 have HC := HC2
 clear HC2
 have H2 := kp (Loc.tail H.out); clear H; have H := H2; clear H2
 clear HCE HHA HHR
 obtain ⟨hb, hc, B0, ho⟩ := (HO1.out.chg HC.out)
 have HCE := kp (show ∀ W, Ext wF W → W.cell? ⟨b, 0, none⟩ = some (.slice um 43 uc) from fun W hx => by
  have := (hx.cell hb).trans hc
  rwa [ms1_len] at this)
 have HHA := kp (show ∀ (s : Fw) W, Ext wF W → Calls Try.prog 15 #[.agg (cat (partsF s)).toArray, .slice um 43 uc, .int .i64 0] W (ResR (handleF s (ms1 p 1) 0) W) from fun s W hx => by
  have := handle_own s (ms1 p 1) (by rw [ms1_len]; decide) 0 _ _ W (owns_ext ho hx)
  rwa [ms1_len] at this)
 clear hb hc ho B0
 have HHR := kp (show ∀ W, Ext wF W → Calls Try.prog 15 #[.agg (cat (partsF (stS0 p))).toArray, .slice um 43 uc, .int .i64 0] W (ResR (stS2 p, [ms2 p 1], 0) W) from fun W hx => by have := HHA.out (stS0 p) W hx; rw [nm_o HK.out HM.out] at this; exact this)
 go_wp2_with fail
 subst h17
 have HLW := kp (Nat.le_refl wF.heap.size)
 refine region_freeN H (tabS [(157, fun vQ _ => vQ = .pointer (some ⟨g2, 131, none⟩)), (158, fun vQ _ => vQ = .agg (cat (partsF (stS0 p))).toArray), (159, fun vQ _ => vQ = .slice (some ⟨b, 0, none⟩) 1 c), (160, fun vQ _ => vQ = .pointer (some ⟨b, 0, none⟩)), (161, fun vQ _ => vQ = .slice um 43 uc), (162, fun vQ wQ => TupR (wF).heap.size (stS2 p, [ms2 p 1], 0) vQ wQ), (156, fun vQ wQ => TupR (wF).heap.size (stS2 p, [ms2 p 1], 0) vQ wQ), (163, fun vQ _ => vQ = .agg (cat (partsF (stS2 p))).toArray), (164, fun vQ wQ => SlBB (wF).heap.size wQ vQ [ms2 p 1]), (165, fun vQ _ => vQ = .int .i64 0), (32, fun vQ wQ => SlBB (wF).heap.size wQ vQ [ms2 p 1])]) 10 11 31 163 32 (cat (partsF fw0)) (cat (partsF (stS2 p))) 13 (tabS_trn _ _ _ (by simp only [List.forall_mem_cons]; exact ⟨monoN_eq _ _ _, monoN_eq _ _ _, monoN_eq _ _ _, monoN_eq _ _ _, monoN_eq _ _ _, (monoN_TupR _ _ _), (monoN_TupR _ _ _), monoN_eq _ _ _, (monoN_SlBB _ _ _), monoN_eq _ _ _, (monoN_SlBB _ _ _), by simp⟩)) (fun _ _ => trivial) (fun _ _ h => h) (by kernel_rfl) (by kernel_rfl) (by kernel_rfl) (by kernel_rfl) _ _ rfl rfl (by decide) (by decide) (by decide) rfl rfl rfl (fun _ => by kernel_rfl) rfl rfl rfl (by kernel_rfl) (by kernel_rfl) (by kernel_rfl) (sizeFw _) (len_F _ _) (by simpa using cat_one (partsF (stS2 p))) (by kernel_rfl) ?_
 simp only [List.take_succ_cons, List.take_zero]
 refine ⟨fun _ w_ o_ S_ => ?_, fun v157 => ?_⟩
 ·clear S_
  clear o_
  go_wp2_with fail
  exact kso rfl rfl rfl
 simp only [Act.put, sbA, szA, ssA]
 refine ⟨fun _ w_ o_ S_ => ?_, fun v158 => ?_⟩
 ·obtain rfl : v157 = .pointer (some ⟨g2, 131, none⟩) := hsR S_ 157 rfl
  clear S_
  have H := kp (H.out.ext o_)
  have HOX := kp o_
  clear o_
  go_wp2_with ((with_reducible refine isLd 32 ?_); refine L_fg H rfl 32 _ rfl 1 rfl _ rfl _ rfl (partsF (stS0 p)) rfl Try.underlying32 rfl (by kernel_rfl) ?_; simp only [Act.put, sbA, szA, ssA])
  exact kso rfl rfl rfl
 simp only [Act.put, sbA, szA, ssA]
 refine ⟨fun _ w_ o_ S_ => ?_, fun v159 => ?_⟩
 ·clear S_
  clear o_
  go_wp2_with fail
  exact kso rfl rfl rfl
 simp only [Act.put, sbA, szA, ssA]
 refine ⟨fun _ w_ o_ S_ => ?_, fun v160 => ?_⟩
 ·obtain rfl : v159 = .slice (some ⟨b, 0, none⟩) 1 c := hsR S_ 159 rfl
  clear S_ o_
  go_wp2_with fail
  exact kso rfl rfl rfl
 simp only [Act.put, sbA, szA, ssA]
 refine ⟨fun _ w_ o_ S_ => ?_, fun v161 => ?_⟩
 ·obtain rfl : v160 = .pointer (some ⟨b, 0, none⟩) := hsR S_ 160 rfl
  clear S_
  have H := kp (H.out.ext o_)
  have HOX := kp o_
  clear o_
  have hc := HCE.out _ HOX.out
  go_wp2_with fail
  exact kso rfl rfl rfl
 simp only [Act.put, sbA, szA, ssA]
 refine ⟨fun _ w_ o_ S_ => ?_, fun v162 => ?_⟩
 ·obtain rfl : v158 = .agg (cat (partsF (stS0 p))).toArray := hsR S_ 158 rfl
  obtain rfl : v161 = .slice um 43 uc := hsR S_ 161 rfl
  clear S_
  have H := kp (H.out.ext o_)
  have HOX := kp o_
  clear o_
  go_wp2_with fail
  refine (HHR.out _ HOX.out).mono ?_
  rintro e w2 ⟨u, rfl, hs, hx⟩
  have HSL := kp (hs.weak HOX.out.size)
  have HXC := kp hx
  clear hs hx
  go_wp2_with fail
  exact ⟨rfl, _, rfl, fun d hd => by cases hd; exact ⟨_, rfl, HSL.out⟩, HXC.out⟩
 simp only [Act.put, sbA, szA, ssA]
 refine ⟨fun _ w_ o_ S_ => ?_, fun v156 => ?_⟩
 ·have h162 := kp (show TupR (wF).heap.size (stS2 p, [ms2 p 1], 0) v162 w_ from hsR S_ 162 rfl)
  clear S_ o_
  go_wp2_with fail
  exact ⟨rfl, _, rfl, fun d hd => by cases hd; exact h162.out, Ext.refl _⟩
 simp only [Act.put, sbA, szA, ssA]
 refine ⟨fun _ w_ o_ S_ => ?_, fun v163 => ?_⟩
 ·have h156 := kp (show TupR (wF).heap.size (stS2 p, [ms2 p 1], 0) v156 w_ from hsR S_ 156 rfl)
  clear S_
  have H := kp (H.out.ext o_)
  have HOX := kp o_
  clear o_
  obtain ⟨u, rfl, hs⟩ := h156.out
  clear hs
  go_wp2_with fail
  exact kso rfl rfl rfl
 simp only [Act.put, sbA, szA, ssA]
 refine ⟨fun _ w_ o_ S_ => ?_, fun v164 => ?_⟩
 ·have h156 := kp (show TupR (wF).heap.size (stS2 p, [ms2 p 1], 0) v156 w_ from hsR S_ 156 rfl)
  clear S_
  have H := kp (H.out.ext o_)
  have HOX := kp o_
  clear o_
  obtain ⟨u, rfl, hs⟩ := h156.out
  have HSL := kp hs
  clear hs
  go_wp2_with fail
  exact ⟨rfl, _, rfl, fun d hd => by cases hd; exact HSL.out, Ext.refl _⟩
 simp only [Act.put, sbA, szA, ssA]
 refine ⟨fun _ w_ o_ S_ => ?_, fun v165 => ?_⟩
 ·have h156 := kp (show TupR (wF).heap.size (stS2 p, [ms2 p 1], 0) v156 w_ from hsR S_ 156 rfl)
  clear S_
  have H := kp (H.out.ext o_)
  have HOX := kp o_
  clear o_
  obtain ⟨u, rfl, hs⟩ := h156.out
  clear hs
  go_wp2_with fail
  exact kso rfl rfl rfl
 simp only [Act.put, sbA, szA, ssA]
 refine ⟨(fun h => by cases h), fun v31 => ?_⟩
 simp only [Act.put, sbA, szA, ssA]
 refine ⟨(fun h => by cases h), fun _ => ?_⟩
 refine ⟨fun _ w_ o_ S_ => ?_, fun v32 => ?_⟩
 ·have h164 := kp (show SlBB (wF).heap.size w_ v164 [ms2 p 1] from hsR S_ 164 rfl)
  clear S_ o_
  go_wp2_with fail
  exact ⟨rfl, _, rfl, fun d hd => by cases hd; exact h164.out, Ext.refl _⟩
 simp only [Act.put, sbA, szA, ssA]
 clear H
 intro wG HOX hfin hvar
 obtain ⟨g31, hvg, hvb, hvl, H⟩ := hvar
 have HBg31 := kp hvb
 clear hvb hvl
 obtain rfl : v31 = .pointer (some ⟨g31, 0, none⟩) := hvg
 obtain rfl : v157 = .pointer (some ⟨g2, 131, none⟩) := hfin 157 (by decide)
 obtain rfl : v158 = .agg (cat (partsF (stS0 p))).toArray := hfin 158 (by decide)
 obtain rfl : v159 = .slice (some ⟨b, 0, none⟩) 1 c := hfin 159 (by decide)
 obtain rfl : v160 = .pointer (some ⟨b, 0, none⟩) := hfin 160 (by decide)
 obtain rfl : v161 = .slice um 43 uc := hfin 161 (by decide)
 have F162 := kp (show TupR (wF).heap.size (stS2 p, [ms2 p 1], 0) v162 wG from hfin 162 (by decide))
 have F156 := kp (show TupR (wF).heap.size (stS2 p, [ms2 p 1], 0) v156 wG from hfin 156 (by decide))
 obtain rfl : v163 = .agg (cat (partsF (stS2 p))).toArray := hfin 163 (by decide)
 have F164 := kp (show SlBB (wF).heap.size wG v164 [ms2 p 1] from hfin 164 (by decide))
 obtain rfl : v165 = .int .i64 0 := hfin 165 (by decide)
 have F32 := kp (show SlBB (wF).heap.size wG v32 [ms2 p 1] from hfin 32 (by decide))
 clear hfin
 simp only [List.drop_succ_cons, List.drop_zero]
 try simp only [applyS] at H
 have HXN := HOX
 have HC2 := kp (HC.out.ext HXN.out)
 clear HC
 have HC := HC2
 clear HC2
 clear HCE HHA HHR HC HO1
 obtain ⟨b, c, u, hvv, hoo⟩ := OneO.of F32.out
 obtain rfl : v32 = .slice (some ⟨b, 0, none⟩) 1 c := hvv
 obtain ⟨-, -, B2, ho2⟩ := id hoo
 obtain ⟨um, uc, rfl⟩ := owns_form ho2
 have HO2 := kp hoo
 have HOU := kp ho2
 clear hoo ho2
 have HC := kp (Chg.refl wG)
 obtain ⟨hb, hc, B0, ho⟩ := (HO2.out.chg HC.out)
 have HCE := kp (show ∀ W, Ext wG W → W.cell? ⟨b, 0, none⟩ = some (.slice um 43 uc) from fun W hx => by
  have := (hx.cell hb).trans hc
  rwa [ms2_len] at this)
 have HHA := kp (show ∀ (s : Fw) W, Ext wG W → Calls Try.prog 15 #[.agg (cat (partsF s)).toArray, .slice um 43 uc, .int .i64 0] W (ResR (handleF s (ms2 p 1) 0) W) from fun s W hx => by
  have := handle_own s (ms2 p 1) (by rw [ms2_len]; decide) 0 _ _ W (owns_ext ho hx)
  rwa [ms2_len] at this)
 clear hb hc ho B0
 have hc := HCE.out wG (Ext.refl _)
 go_wp2_with fail
 clear hc
 have HL0 := kp (H.out.lt 0 rfl)
 have HL1 := kp (H.out.lt 1 rfl)
 have HL2 := kp (H.out.lt 2 rfl)
 have HL3 := kp (H.out.lt 3 rfl)
 have HWZ := kp (H.out.1.size)
 have HL43 := kp (ms2_len p 1)
 subst h20
 go_wp2_with (first | (((with_reducible show wpList _ _ _ (Oper.mk (some 180) (Op.buildSlice 33 _ _) _ _ _ _ :: _) _ _); (refine L_bs H (by kernel_rfl) 33 0 _ rfl (#[]) (by kernel_rfl) 5 ([]) (fun _ => by kernel_rfl) ?_); clear H; intro g180 w180 HGg180 HEg180 H; simp only [Act.put, sbA, szA, ssA]); have hc := HCE.out _ HEg180.out) | (at_builtin; (have HSX := kp ((show SlB w180 (.slice um 43 uc) (ms2 p 1) from (by have := (SlB.of_owns HOU.out).ext HEg180.out; rwa [HL43.out] at this))); have HOX2 := kp (owns_nilB (base := wG.heap.size) (H.out.at 0 rfl) (Nat.le_of_eq HGg180.out.symm)); have H2 := kp H.out.tl; clear H; have H := H2; clear H2; refine L_appB H rfl _ _ rfl (wG.heap.size) (by have q0 := HL0.out; have q1 := HL1.out; have q2 := HL2.out; have q3 := HL3.out; have q4 := HWZ.out; have q5 := HEg180.out.size; omega) (by have q0 := HL0.out; have q1 := HL1.out; have q2 := HL2.out; have q3 := HL3.out; have q4 := HWZ.out; have q5 := HEg180.out.size; omega) (by intro zz hz; simp at hz; have q0 := HL0.out; have q1 := HL1.out; have q2 := HL2.out; have q3 := HL3.out; have q4 := HWZ.out; have q5 := HEg180.out.size; omega) _ _ rfl HOX2.out _ _ rfl HSX.out ((by rw [HL43.out]; decide)) ?_; clear H HSX HOX2; intro vb wx HX2 HGwx H; simp only [Act.put, sbA, szA, ssA])))
 clear HCE HHA HOU
 have HX3 := kp (show wx.ownsRow wG.heap.size 5 1 vb 43 ((ms2 p 1).map V8) from by have := HX2.out; rw [List.nil_append, HL43.out] at this; exact this)
 have HCX := kp (show Chg wG.heap.size wG wx from ⟨Nat.le_trans HEg180.out.size HGwx.out.size, fun k hk => (HGwx.out.block k (Nat.lt_of_lt_of_le hk HEg180.out.size) (fun q => by have q : some g180 = some k := q.symm; cases q; have := HGg180.out; omega)).trans ((Chg.of_ext HEg180.out).2 k hk)⟩)
 obtain ⟨gx, cap, cs, rfl, hge, hL, hnc, hcm, hcl, hct⟩ := owns_open HX3.out (by decide)
 have H2 := kp (H.out.add wG.heap.size (by intro z hz; simp at hz; have q0 := HL0.out; have q1 := HL1.out; have q2 := HL2.out; have q3 := HL3.out; omega) HWZ.out hge hL)
 clear H HX2
 have H := H2
 clear H2
 have HB42 := kp (show cs[42]? = some (.int .u8 (wI ((ms2 p 1).getD 42 0))) from by
  have h1 : ((ms2 p 1).map V8)[42]? = some (V8 ((ms2 p 1).getD 42 0)) := by
   rw [List.getElem?_map, List.getD_eq_getElem?_getD, List.getElem?_eq_getElem (by rw [HL43.out]; decide)]; rfl
  rw [← hct, List.getElem?_take, if_pos (by decide)] at h1
  exact h1)
 have HKC := kp (show 42 < cs.length from by omega)
 have HXB := kp (show (cs.set 42 (.int .u8 ((wI ((ms2 p 1).getD 42 0) + 1) % 256))).take 43 = (xB (ms2 p 1)).map V8 ∧ (xB (ms2 p 1)).length = 43 from by
  unfold xB
  refine ⟨?_, by rw [List.length_set, HL43.out]⟩
  rw [List.take_set, hct, List.map_set]
  refine congrArg (fun z => (List.map V8 (ms2 p 1)).set 42 z) ?_
  refine congrArg (Value.int .u8) ?_
  show _ = wI _
  unfold wI
  rw [BitVec.toNat_add]
  rfl)
 have HCAP := kp (And.intro hnc (And.intro hcm hcl))
 have HGE := kp hge
 have hcx := run_load_cell H.out 0 rfl _ _ HB42.out
 clear hct hL hnc hcm hcl hge
 subst h21
 go_wp2_with ((with_reducible refine isSt 5 ?_); (refine L_cell H rfl rfl 5 _ _ rfl 0 rfl (42) rfl (.int .u8 ((wI ((ms2 p 1).getD 42 0) + 1) % 256)) rfl (rfl) (size5) (HKC.out) (cs.set 42 (.int .u8 ((wI ((ms2 p 1).getD 42 0) + 1) % 256))) (rfl) ?_; clear H; intro wy HWwy H; simp only [szA] at H))
 clear hcx
 have HCY := kp (HCX.out.wrote HWwy.out HGE.out)
 have HC2 := kp (HC.out.trans HCY.out)
 clear HC
 have HC := HC2
 clear HC2
 have HXO := kp (show wy.ownsRow wG.heap.size 5 1 (.slice (some ⟨gx, 0, none⟩) 43 cap) (xB (ms2 p 1)).length ((xB (ms2 p 1)).map V8) from by
  rw [HXB.out.2]
  exact owns_close HGE.out (H.out.at 0 rfl) HCAP.out.1 HCAP.out.2.1 (by rw [List.length_set]; exact HCAP.out.2.2) HXB.out.1)
 have HHX := kp (show ∀ W, Ext wy W → Calls Try.prog 15 #[.agg (cat (partsF (stA1 p 1 100000))).toArray, .slice (some ⟨gx, 0, none⟩) 43 cap, .int .i64 0] W (ResR (fw0, [], 33) W) from fun W hx => by
  have := handle_own (stA1 p 1 100000) (xB (ms2 p 1)) (by rw [HXB.out.2]; decide) 0 _ _ W (owns_ext HXO.out hx)
  rw [nm_q HK.out] at this; exact this)
 have H2 := kp (Loc.tail H.out); clear H; have H := H2; clear H2
 subst h22
 go_wp2_with (first | ((with_reducible refine isLd 32 ?_); refine L_fa H rfl 32 _ rfl 1 rfl rfl Try.underlying32 rfl (by kernel_rfl) ?_; simp only [Act.put, sbA, szA, ssA]) | (go_at_call 15; refine (HHX.out _ (Ext.refl _)).mono ?_; rintro e wa ⟨v, rfl, hs, hx⟩; clear hs; have HC2 := kp (HC.out.ext hx); clear HC; have HC := HC2; clear HC2; have H2 := kp (H.out.ext hx); have HXC := kp hx; clear H hx; have H := H2; clear H2) | (((with_reducible show wpList _ _ _ (Oper.mk (some 35) (Op.alloc 32) _ _ _ _ :: _) _ _); (refine L_alloc H rfl 32 rfl (cat (partsF fw0)) (fun _ _ => by kernel_rfl) ?_); clear H; intro g35 w35 HGg35 HEg35 H; simp only [Act.put, sbA, szA, ssA]); have HLg35 := kp (Nat.le_trans HC.out.1 (Nat.le_of_eq HGg35.out.symm)); have HC2 := kp (HC.out.ext HEg35.out); clear HC; have HC := HC2; clear HC2) | (((with_reducible show wpList _ _ _ (Oper.mk none (Op.store 32 (.tmp 35) _) _ _ _ _ :: _) _ _); ((with_reducible refine isSt 32 ?_); refine L_sa H rfl rfl 32 _ _ rfl 0 rfl rfl (partsF fw0) rfl rfl (by kernel_rfl) ?_; clear H; intro v35 HWv35 H; simp only [szA] at H); have HC2 := kp (HC.out.wrote HWv35.out HLg35.out); clear HC; have HC := HC2; clear HC2); have H2 := kp (Loc.tail H.out); clear H; have H := H2; clear H2))
 obtain ⟨hb, hc, B0, ho⟩ := (HO2.out.chg HC.out)
 have HCE := kp (show ∀ W, Ext v35 W → W.cell? ⟨b, 0, none⟩ = some (.slice um 43 uc) from fun W hx => by
  have := (hx.cell hb).trans hc
  rwa [ms2_len] at this)
 have HHA := kp (show ∀ (s : Fw) W, Ext v35 W → Calls Try.prog 15 #[.agg (cat (partsF s)).toArray, .slice um 43 uc, .int .i64 0] W (ResR (handleF s (ms2 p 1) 0) W) from fun s W hx => by
  have := handle_own s (ms2 p 1) (by rw [ms2_len]; decide) 0 _ _ W (owns_ext ho hx)
  rwa [ms2_len] at this)
 clear hb hc ho B0
 have HHR := kp (show ∀ W, Ext v35 W → Calls Try.prog 15 #[.agg (cat (partsF (stA1 p 1 100000))).toArray, .slice um 43 uc, .int .i64 0] W (ResR (stA3 p 2 1 100000, [ms3 p 2], 0) W) from fun W hx => by have := HHA.out (stA1 p 1 100000) W hx; rw [nm_r HK.out] at this; exact this)
 subst h23
 refine region_freeN H (tabS [(198, fun vQ _ => vQ = .agg (cat (partsF (stA1 p 1 100000))).toArray), (199, fun vQ _ => vQ = .slice (some ⟨b, 0, none⟩) 1 c), (200, fun vQ _ => vQ = .pointer (some ⟨b, 0, none⟩)), (201, fun vQ _ => vQ = .slice um 43 uc), (202, fun vQ wQ => TupR (v35).heap.size (stA3 p 2 1 100000, [ms3 p 2], 0) vQ wQ), (197, fun vQ wQ => TupR (v35).heap.size (stA3 p 2 1 100000, [ms3 p 2], 0) vQ wQ), (203, fun vQ _ => vQ = .agg (cat (partsF (stA3 p 2 1 100000))).toArray), (204, fun vQ wQ => SlBB (v35).heap.size wQ vQ [ms3 p 2]), (205, fun vQ _ => vQ = .int .i64 0), (39, fun vQ wQ => SlBB (v35).heap.size wQ vQ [ms3 p 2])]) 9 10 38 203 32 (cat (partsF fw0)) (cat (partsF (stA3 p 2 1 100000))) 12 (tabS_trn _ _ _ (by simp only [List.forall_mem_cons]; exact ⟨monoN_eq _ _ _, monoN_eq _ _ _, monoN_eq _ _ _, monoN_eq _ _ _, (monoN_TupR _ _ _), (monoN_TupR _ _ _), monoN_eq _ _ _, (monoN_SlBB _ _ _), monoN_eq _ _ _, (monoN_SlBB _ _ _), by simp⟩)) (fun _ _ => trivial) (fun _ _ h => h) (by kernel_rfl) (by kernel_rfl) (by kernel_rfl) (by kernel_rfl) _ _ rfl rfl (by decide) (by decide) (by decide) rfl rfl rfl (fun _ => by kernel_rfl) rfl rfl rfl (by kernel_rfl) (by kernel_rfl) (by kernel_rfl) (sizeFw _) (len_F _ _) (by simpa using cat_one (partsF (stA3 p 2 1 100000))) (by kernel_rfl) ?_
 simp only [List.take_succ_cons, List.take_zero]
 refine ⟨fun _ w_ o_ S_ => ?_, fun v198 => ?_⟩
 ·clear S_
  have H := kp (H.out.ext o_)
  have HOX := kp o_
  clear o_
  go_wp2_with ((with_reducible refine isLd 32 ?_); refine L_fa H rfl 32 _ rfl 1 rfl rfl Try.underlying32 rfl (by kernel_rfl) ?_; simp only [Act.put, sbA, szA, ssA])
  exact kso rfl rfl rfl
 simp only [Act.put, sbA, szA, ssA]
 refine ⟨fun _ w_ o_ S_ => ?_, fun v199 => ?_⟩
 ·clear S_
  clear o_
  go_wp2_with fail
  exact kso rfl rfl rfl
 simp only [Act.put, sbA, szA, ssA]
 refine ⟨fun _ w_ o_ S_ => ?_, fun v200 => ?_⟩
 ·obtain rfl : v199 = .slice (some ⟨b, 0, none⟩) 1 c := hsR S_ 199 rfl
  clear S_ o_
  go_wp2_with fail
  exact kso rfl rfl rfl
 simp only [Act.put, sbA, szA, ssA]
 refine ⟨fun _ w_ o_ S_ => ?_, fun v201 => ?_⟩
 ·obtain rfl : v200 = .pointer (some ⟨b, 0, none⟩) := hsR S_ 200 rfl
  clear S_
  have H := kp (H.out.ext o_)
  have HOX := kp o_
  clear o_
  have hc := HCE.out _ HOX.out
  go_wp2_with fail
  exact kso rfl rfl rfl
 simp only [Act.put, sbA, szA, ssA]
 refine ⟨fun _ w_ o_ S_ => ?_, fun v202 => ?_⟩
 ·obtain rfl : v198 = .agg (cat (partsF (stA1 p 1 100000))).toArray := hsR S_ 198 rfl
  obtain rfl : v201 = .slice um 43 uc := hsR S_ 201 rfl
  clear S_
  have H := kp (H.out.ext o_)
  have HOX := kp o_
  clear o_
  go_wp2_with fail
  refine (HHR.out _ HOX.out).mono ?_
  rintro e w2 ⟨u, rfl, hs, hx⟩
  have HSL := kp (hs.weak HOX.out.size)
  have HXC := kp hx
  clear hs hx
  go_wp2_with fail
  exact ⟨rfl, _, rfl, fun d hd => by cases hd; exact ⟨_, rfl, HSL.out⟩, HXC.out⟩
 simp only [Act.put, sbA, szA, ssA]
 refine ⟨fun _ w_ o_ S_ => ?_, fun v197 => ?_⟩
 ·have h202 := kp (show TupR (v35).heap.size (stA3 p 2 1 100000, [ms3 p 2], 0) v202 w_ from hsR S_ 202 rfl)
  clear S_ o_
  go_wp2_with fail
  exact ⟨rfl, _, rfl, fun d hd => by cases hd; exact h202.out, Ext.refl _⟩
 simp only [Act.put, sbA, szA, ssA]
 refine ⟨fun _ w_ o_ S_ => ?_, fun v203 => ?_⟩
 ·have h197 := kp (show TupR (v35).heap.size (stA3 p 2 1 100000, [ms3 p 2], 0) v197 w_ from hsR S_ 197 rfl)
  clear S_
  have H := kp (H.out.ext o_)
  have HOX := kp o_
  clear o_
  obtain ⟨u, rfl, hs⟩ := h197.out
  clear hs
  go_wp2_with fail
  exact kso rfl rfl rfl
 simp only [Act.put, sbA, szA, ssA]
 refine ⟨fun _ w_ o_ S_ => ?_, fun v204 => ?_⟩
 ·have h197 := kp (show TupR (v35).heap.size (stA3 p 2 1 100000, [ms3 p 2], 0) v197 w_ from hsR S_ 197 rfl)
  clear S_
  have H := kp (H.out.ext o_)
  have HOX := kp o_
  clear o_
  obtain ⟨u, rfl, hs⟩ := h197.out
  have HSL := kp hs
  clear hs
  go_wp2_with fail
  exact ⟨rfl, _, rfl, fun d hd => by cases hd; exact HSL.out, Ext.refl _⟩
 simp only [Act.put, sbA, szA, ssA]
 refine ⟨fun _ w_ o_ S_ => ?_, fun v205 => ?_⟩
 ·have h197 := kp (show TupR (v35).heap.size (stA3 p 2 1 100000, [ms3 p 2], 0) v197 w_ from hsR S_ 197 rfl)
  clear S_
  have H := kp (H.out.ext o_)
  have HOX := kp o_
  clear o_
  obtain ⟨u, rfl, hs⟩ := h197.out
  clear hs
  go_wp2_with fail
  exact kso rfl rfl rfl
 simp only [Act.put, sbA, szA, ssA]
 refine ⟨(fun h => by cases h), fun v38 => ?_⟩
 simp only [Act.put, sbA, szA, ssA]
 refine ⟨(fun h => by cases h), fun _ => ?_⟩
 refine ⟨fun _ w_ o_ S_ => ?_, fun v39 => ?_⟩
 ·have h204 := kp (show SlBB (v35).heap.size w_ v204 [ms3 p 2] from hsR S_ 204 rfl)
  clear S_ o_
  go_wp2_with fail
  exact ⟨rfl, _, rfl, fun d hd => by cases hd; exact h204.out, Ext.refl _⟩
 simp only [Act.put, sbA, szA, ssA]
 clear H
 intro wJ HOX hfin hvar
 obtain ⟨g38, hvg, hvb, hvl, H⟩ := hvar
 have HBg38 := kp hvb
 clear hvb hvl
 obtain rfl : v38 = .pointer (some ⟨g38, 0, none⟩) := hvg
 obtain rfl : v198 = .agg (cat (partsF (stA1 p 1 100000))).toArray := hfin 198 (by decide)
 obtain rfl : v199 = .slice (some ⟨b, 0, none⟩) 1 c := hfin 199 (by decide)
 obtain rfl : v200 = .pointer (some ⟨b, 0, none⟩) := hfin 200 (by decide)
 obtain rfl : v201 = .slice um 43 uc := hfin 201 (by decide)
 have F202 := kp (show TupR (v35).heap.size (stA3 p 2 1 100000, [ms3 p 2], 0) v202 wJ from hfin 202 (by decide))
 have F197 := kp (show TupR (v35).heap.size (stA3 p 2 1 100000, [ms3 p 2], 0) v197 wJ from hfin 197 (by decide))
 obtain rfl : v203 = .agg (cat (partsF (stA3 p 2 1 100000))).toArray := hfin 203 (by decide)
 have F204 := kp (show SlBB (v35).heap.size wJ v204 [ms3 p 2] from hfin 204 (by decide))
 obtain rfl : v205 = .int .i64 0 := hfin 205 (by decide)
 have F39 := kp (show SlBB (v35).heap.size wJ v39 [ms3 p 2] from hfin 39 (by decide))
 clear hfin
 simp only [List.drop_succ_cons, List.drop_zero]
 try simp only [applyS] at H
 have HXN := HOX
 have HC2 := kp (HC.out.ext HXN.out)
 clear HC
 have HC := HC2
 clear HC2
 clear HCE HHA HHR
 obtain ⟨b3, c3, u3, hvv, hoo⟩ := OneO.of F39.out
 obtain rfl : v39 = .slice (some ⟨b3, 0, none⟩) 1 c3 := hvv
 obtain ⟨-, -, B3, ho3⟩ := id hoo
 obtain ⟨um3, uc3, rfl⟩ := owns_form ho3
 have HO3 := kp hoo
 clear hoo ho3
 obtain ⟨hb, hc, B0, ho⟩ := (HO2.out.chg HC.out)
 have HCE := kp (show ∀ W, Ext wJ W → W.cell? ⟨b, 0, none⟩ = some (.slice um 43 uc) from fun W hx => by
  have := (hx.cell hb).trans hc
  rwa [ms2_len] at this)
 have HHA := kp (show ∀ (s : Fw) W, Ext wJ W → Calls Try.prog 15 #[.agg (cat (partsF s)).toArray, .slice um 43 uc, .int .i64 0] W (ResR (handleF s (ms2 p 1) 0) W) from fun s W hx => by
  have := handle_own s (ms2 p 1) (by rw [ms2_len]; decide) 0 _ _ W (owns_ext ho hx)
  rwa [ms2_len] at this)
 clear hb hc ho B0
 have HHR := kp (show ∀ W, Ext wJ W → Calls Try.prog 15 #[.agg (cat (partsF (stA3 p 2 1 100000))).toArray, .slice um 43 uc, .int .i64 0] W (ResR (fw0, [], 20) W) from fun W hx => by have := HHA.out (stA3 p 2 1 100000) W hx; rw [nm_t HK.out] at this; exact this)
 go_wp2_with fail
 subst h24
 refine region_freeN H (tabS [(207, fun vQ _ => vQ = .agg (cat (partsF (stA3 p 2 1 100000))).toArray), (208, fun vQ _ => vQ = .slice (some ⟨b, 0, none⟩) 1 c), (209, fun vQ _ => vQ = .pointer (some ⟨b, 0, none⟩)), (210, fun vQ _ => vQ = .slice um 43 uc), (211, fun vQ wQ => TupR (wJ).heap.size (fw0, [], 20) vQ wQ), (206, fun vQ wQ => TupR (wJ).heap.size (fw0, [], 20) vQ wQ), (212, fun vQ _ => vQ = .agg (cat (partsF (fw0))).toArray), (213, fun vQ wQ => SlBB (wJ).heap.size wQ vQ []), (214, fun vQ _ => vQ = .int .i64 20), (42, fun vQ wQ => SlBB (wJ).heap.size wQ vQ [])]) 9 10 41 212 32 (cat (partsF fw0)) (cat (partsF (fw0))) 12 (tabS_trn _ _ _ (by simp only [List.forall_mem_cons]; exact ⟨monoN_eq _ _ _, monoN_eq _ _ _, monoN_eq _ _ _, monoN_eq _ _ _, (monoN_TupR _ _ _), (monoN_TupR _ _ _), monoN_eq _ _ _, (monoN_SlBB _ _ _), monoN_eq _ _ _, (monoN_SlBB _ _ _), by simp⟩)) (fun _ _ => trivial) (fun _ _ h => h) (by kernel_rfl) (by kernel_rfl) (by kernel_rfl) (by kernel_rfl) _ _ rfl rfl (by decide) (by decide) (by decide) rfl rfl rfl (fun _ => by kernel_rfl) rfl rfl rfl (by kernel_rfl) (by kernel_rfl) (by kernel_rfl) (sizeFw _) (len_F _ _) (by simpa using cat_one (partsF (fw0))) (by kernel_rfl) ?_
 simp only [List.take_succ_cons, List.take_zero]
 refine ⟨fun _ w_ o_ S_ => ?_, fun v207 => ?_⟩
 ·clear S_
  have H := kp (H.out.ext o_)
  have HOX := kp o_
  clear o_
  go_wp2_with ((with_reducible refine isLd 32 ?_); refine L_fa H rfl 32 _ rfl 0 rfl rfl Try.underlying32 rfl (by kernel_rfl) ?_; simp only [Act.put, sbA, szA, ssA])
  exact kso rfl rfl rfl
 simp only [Act.put, sbA, szA, ssA]
 refine ⟨fun _ w_ o_ S_ => ?_, fun v208 => ?_⟩
 ·clear S_
  clear o_
  go_wp2_with fail
  exact kso rfl rfl rfl
 simp only [Act.put, sbA, szA, ssA]
 refine ⟨fun _ w_ o_ S_ => ?_, fun v209 => ?_⟩
 ·obtain rfl : v208 = .slice (some ⟨b, 0, none⟩) 1 c := hsR S_ 208 rfl
  clear S_ o_
  go_wp2_with fail
  exact kso rfl rfl rfl
 simp only [Act.put, sbA, szA, ssA]
 refine ⟨fun _ w_ o_ S_ => ?_, fun v210 => ?_⟩
 ·obtain rfl : v209 = .pointer (some ⟨b, 0, none⟩) := hsR S_ 209 rfl
  clear S_
  have H := kp (H.out.ext o_)
  have HOX := kp o_
  clear o_
  have hc := HCE.out _ HOX.out
  go_wp2_with fail
  exact kso rfl rfl rfl
 simp only [Act.put, sbA, szA, ssA]
 refine ⟨fun _ w_ o_ S_ => ?_, fun v211 => ?_⟩
 ·obtain rfl : v207 = .agg (cat (partsF (stA3 p 2 1 100000))).toArray := hsR S_ 207 rfl
  obtain rfl : v210 = .slice um 43 uc := hsR S_ 210 rfl
  clear S_
  have H := kp (H.out.ext o_)
  have HOX := kp o_
  clear o_
  go_wp2_with fail
  refine (HHR.out _ HOX.out).mono ?_
  rintro e w2 ⟨u, rfl, hs, hx⟩
  have HSL := kp (hs.weak HOX.out.size)
  have HXC := kp hx
  clear hs hx
  go_wp2_with fail
  exact ⟨rfl, _, rfl, fun d hd => by cases hd; exact ⟨_, rfl, HSL.out⟩, HXC.out⟩
 simp only [Act.put, sbA, szA, ssA]
 refine ⟨fun _ w_ o_ S_ => ?_, fun v206 => ?_⟩
 ·have h211 := kp (show TupR (wJ).heap.size (fw0, [], 20) v211 w_ from hsR S_ 211 rfl)
  clear S_ o_
  go_wp2_with fail
  exact ⟨rfl, _, rfl, fun d hd => by cases hd; exact h211.out, Ext.refl _⟩
 simp only [Act.put, sbA, szA, ssA]
 refine ⟨fun _ w_ o_ S_ => ?_, fun v212 => ?_⟩
 ·have h206 := kp (show TupR (wJ).heap.size (fw0, [], 20) v206 w_ from hsR S_ 206 rfl)
  clear S_
  have H := kp (H.out.ext o_)
  have HOX := kp o_
  clear o_
  obtain ⟨u, rfl, hs⟩ := h206.out
  clear hs
  go_wp2_with fail
  exact kso rfl rfl rfl
 simp only [Act.put, sbA, szA, ssA]
 refine ⟨fun _ w_ o_ S_ => ?_, fun v213 => ?_⟩
 ·have h206 := kp (show TupR (wJ).heap.size (fw0, [], 20) v206 w_ from hsR S_ 206 rfl)
  clear S_
  have H := kp (H.out.ext o_)
  have HOX := kp o_
  clear o_
  obtain ⟨u, rfl, hs⟩ := h206.out
  have HSL := kp hs
  clear hs
  go_wp2_with fail
  exact ⟨rfl, _, rfl, fun d hd => by cases hd; exact HSL.out, Ext.refl _⟩
 simp only [Act.put, sbA, szA, ssA]
 refine ⟨fun _ w_ o_ S_ => ?_, fun v214 => ?_⟩
 ·have h206 := kp (show TupR (wJ).heap.size (fw0, [], 20) v206 w_ from hsR S_ 206 rfl)
  clear S_
  have H := kp (H.out.ext o_)
  have HOX := kp o_
  clear o_
  obtain ⟨u, rfl, hs⟩ := h206.out
  clear hs
  go_wp2_with fail
  exact kso rfl rfl rfl
 simp only [Act.put, sbA, szA, ssA]
 refine ⟨(fun h => by cases h), fun v41 => ?_⟩
 simp only [Act.put, sbA, szA, ssA]
 refine ⟨(fun h => by cases h), fun _ => ?_⟩
 refine ⟨fun _ w_ o_ S_ => ?_, fun v42 => ?_⟩
 ·have h213 := kp (show SlBB (wJ).heap.size w_ v213 [] from hsR S_ 213 rfl)
  clear S_ o_
  go_wp2_with fail
  exact ⟨rfl, _, rfl, fun d hd => by cases hd; exact h213.out, Ext.refl _⟩
 simp only [Act.put, sbA, szA, ssA]
 clear H
 intro wL HOX hfin hvar
 obtain ⟨gz, hvg, hvb, hvl, H⟩ := hvar
 have HBgz := kp hvb
 clear hvb hvl
 obtain rfl : v41 = .pointer (some ⟨gz, 0, none⟩) := hvg
 obtain rfl : v207 = .agg (cat (partsF (stA3 p 2 1 100000))).toArray := hfin 207 (by decide)
 obtain rfl : v208 = .slice (some ⟨b, 0, none⟩) 1 c := hfin 208 (by decide)
 obtain rfl : v209 = .pointer (some ⟨b, 0, none⟩) := hfin 209 (by decide)
 obtain rfl : v210 = .slice um 43 uc := hfin 210 (by decide)
 have F211 := kp (show TupR (wJ).heap.size (fw0, [], 20) v211 wL from hfin 211 (by decide))
 have F206 := kp (show TupR (wJ).heap.size (fw0, [], 20) v206 wL from hfin 206 (by decide))
 obtain rfl : v212 = .agg (cat (partsF (fw0))).toArray := hfin 212 (by decide)
 have F213 := kp (show SlBB (wJ).heap.size wL v213 [] from hfin 213 (by decide))
 obtain rfl : v214 = .int .i64 20 := hfin 214 (by decide)
 have F42 := kp (show SlBB (wJ).heap.size wL v42 [] from hfin 42 (by decide))
 clear hfin
 simp only [List.drop_succ_cons, List.drop_zero]
 try simp only [applyS] at H
 have HXN := HOX
 have HC2 := kp (HC.out.ext HXN.out)
 clear HC
 have HC := HC2
 clear HC2
 have H2 := kp (Loc.tail H.out); clear H; have H := H2; clear H2
 clear HCE HHA HHR
 have HO4 := kp (HO3.out.chg ((Chg.refl wJ).ext HXN.out))
 go_wp2_with fail
 have hc3 : wL.cell? ⟨b3, 0, none⟩ = some (.slice um3 68 uc3) := by have := HO4.out.2.1; rwa [ms3_len] at this
 subst h25
 go_wp2_with fail
 clear hc3 HC
 have TU := kp (show ∀ W, Calls Try.prog 13 #[.agg (cat (partsF (stA3 p 2 1 100000))).toArray, .int .i64 99999] W (ResR (stA3 p 2 1 100000, [], 0) W) from fun W => by have := tick_any (stA3 p 2 1 100000) 99999 W; rw [nm_u HK.out] at this; exact this)
 subst h27
 go_wp2_with (first | ((with_reducible refine isLd 32 ?_); refine L_fa H rfl 32 _ rfl 0 rfl rfl Try.underlying32 rfl (by kernel_rfl) ?_; simp only [Act.put, sbA, szA, ssA]) | (go_at_call 13; refine (TU.out _).mono ?_; rintro e wa ⟨v, rfl, hs, hx⟩; obtain ⟨va, vc, rfl⟩ := hs.form; clear hs; have H2 := kp (H.out.ext hx); have HXC := kp hx; clear H hx; have H := H2; clear H2) | ((with_reducible show wpList _ _ _ (Oper.mk (some 44) (Op.alloc 32) _ _ _ _ :: _) _ _); (refine L_alloc H rfl 32 rfl (cat (partsF fw0)) (fun _ _ => by kernel_rfl) ?_); clear H; intro g44 w44 HGg44 HEg44 H; simp only [Act.put, sbA, szA, ssA]) | ((with_reducible refine isSt 32 ?_); refine L_sa H rfl rfl 32 _ _ rfl 0 rfl rfl (partsF (stA3 p 2 1 100000)) rfl rfl (by kernel_rfl) ?_; clear H; intro v44 HWv44 H; simp only [szA] at H))
 have CK := kp check_any
 have HGD := kp (nm_good HK.out HM.out)
 subst h28
 go_wp2_with (first | ((with_reducible show wpList _ _ _ (Oper.mk _ (Op.build 32 _) _ _ _ _ :: _) _ _); (refine L_bd rfl 32 _ rfl #[] (by kernel_rfl) (cat (partsF fw0)) (fun _ => by kernel_rfl) ?_); simp only [Act.put, sbA, szA, ssA]) | ((with_reducible refine isLd 32 ?_); refine L_fa H rfl 32 _ rfl 2 rfl rfl Try.underlying32 rfl (by kernel_rfl) ?_; simp only [Act.put, sbA, szA, ssA]) | (go_at_call 17; refine (CK.out _ _).mono ?_; rintro e wa ⟨rfl, hx⟩; (first | rw [nm_bad] | rw [HGD.out]); have H2 := kp (H.out.ext hx); have HXC := kp hx; clear H hx; have H := H2; clear H2))
 have C1 := kp alive_any
 subst h29
 simp only [List.append]
 go_wp2_with (first | (go_at_call 26; refine (C1.out _).mono ?_; rintro e wa ⟨rfl, hx⟩; have H2 := kp (H.out.ext hx); have HXC := kp hx; clear H hx; have H := H2; clear H2) | ((with_reducible refine isLd 32 ?_); (first | (refine L_fa H rfl 32 _ rfl 0 rfl rfl Try.underlying32 rfl (by kernel_rfl) ?_) | (refine L_fa H rfl 32 _ rfl 1 rfl rfl Try.underlying32 rfl (by kernel_rfl) ?_)); simp only [Act.put, sbA, szA, ssA]) | (((with_reducible show wpList _ _ _ (Oper.mk _ (Op.binOp _ 32 _ _ _) _ _ _ _ :: _) _ _); (refine wpList_eq2 rfl 32 _ _ _ rfl _ _ _ rfl rfl Try.eqGuardType32 (eqF_in _ _ _) ?_); simp only [Act.put, sbA, szA, ssA]); simp only [decide_true]))
 go_ret
 exact ⟨rfl, H.out.1⟩
end Go.Proofs.Ytibncchobkaaiaa
