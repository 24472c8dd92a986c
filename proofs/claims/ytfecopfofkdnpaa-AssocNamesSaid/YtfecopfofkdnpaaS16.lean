/- Texts of this proof, put together: Dec2, Pt, Open, Opn, Opn30, Msg3. -/
import Derived.Test.YtfecopfofkdnpaaS15
import Derived.Deep.RegionLaw
import Derived.Deep.DrawnRows
import Derived.Test.YtfecopfofkdnpaaS5
import Derived.Test.YtfecopfofkdnpaaS6
import Derived.Test.YtfecopfofkdnpaaS7
import Derived.Test.YtfecopfofkdnpaaS1
import Derived.ProofKit
import Derived.OpenShut
import Derived.Test.YtfecopfofkdnpaaS3
import Derived.ChangeArms
import Derived.Deep.Slices
import Derived.Test.YtfecopfofkdnpaaS9
namespace Go.Proofs.Ytfecopfofkdnpaa
open Go.RowKit
attribute [local go_sem ↓] Go.wp_at_zero Go.wp_at_succ
theorem step_callF {P : Program} {ops : Array Oper} {o : Oper} {a : Act} {w : World} {K : Act → World → Prop} {Q : Exit → Act → World → Prop} {E : Prop} (hgd : o.guard = none) (f : Nat) {fn : Func} (hf : P.funcs[f]? = some fn) (h1 : fn.name ≠ "runtime.NumGoroutine") (h2 : fn.body ≠ none) (ars : Array Operand) (ts : Array TypeId) (ho : o.op = .call { callee := .value (.func f), args := ars, argTypes := ts })
  (vs : Array Value) (hv : ars.map a.eval = vs) {R : Ending → World → Prop} (hc : Calls P f vs w R) (h : ∀ e w', R e w' → ∃ v, e = .returned v ∧ K (a.put o.dst v) w') : if Region.wanted o (yielded ops a.tmps) = true then Oper.wp P o a w K Q else E := by
 have hw : Region.wanted o (yielded ops a.tmps) = true := by simp [Region.wanted, hgd]
 rw [if_pos hw]
 unfold Oper.wp
 simp [execOp, ho, resolve, invoke, Deferred.ofValue, callFunc, hf, h1, h2, Act.eval, Result.andThen]
 have e : Array.map a.eval ars = vs := hv
 show Oper.upon P o a K Q (.ok (Next.enter f (Array.map a.eval ars)) w)
 rw [e]
 exact hc.mono fun e w' he => by
  obtain ⟨v, rfl, hk⟩ := h e w' he
  exact hk
theorem step_cpB {ops : Array Oper} {o : Oper} {a : Act} {w0 w : World} {K : Act → World → Prop} {Q : Exit → Act → World → Prop} {E : Prop} {bs : List Bk} (H : Loc w0 w bs) (hgd : o.guard = none) (d s : Operand) (ho : o.op = .call { callee := .builtin .copy, args := #[d, s], argTypes := #[29, 29] })
  (k : Nat) {g T : Nat} {cs : List Value} (hi : bs[k]? = some (g, T, cs)) (off n c : Nat) (hd : a.eval d = .slice (some ⟨g, off, none⟩) n c) (b9 o9 sl sc : Nat) (m : By) (hs : a.eval s = .slice (some ⟨b9, o9, none⟩) sl sc) (hm : SlB w (.slice (some ⟨b9, o9, none⟩) sl sc) m) (hn : m.length ≤ n) (hfit : off + m.length ≤ cs.length) (new : List Value) (hnew : cs.take off ++ m.map V8 ++ cs.drop (off + m.length) = new)
  (h : ∀ w', Kp (Loc w0 w' (bs.set k (g, T, new))) → K (a.put o.dst (goInt (m.length : Int))) w') : if Region.wanted o (yielded ops a.tmps) = true then Oper.wp Try.prog o a w K Q else E := by
 have hw : Region.wanted o (yielded ops a.tmps) = true := by simp [Region.wanted, hgd]
 rw [if_pos hw]
 have hl : sl = m.length := hm.len
 have hr := run_copy_row (P := Try.prog) w 29 29 o.type 5 g off n c ⟨b9, o9, none⟩ sl sc cs.toArray T (m.map V8) Try.underlying29 sizeU8q (H.at k hi) (by rw [List.length_map, hl]; exact (Nat.min_eq_left hn).symm) (fun j u hj => by
  rw [List.getElem?_map] at hj
  cases hq : m[j]? with
  | none => simp [hq] at hj
  | some z =>
   simp [hq] at hj; subst hj
   obtain ⟨b1, o1, e1, _, h3⟩ := hm.at j z hq
   cases e1
   rw [Addr.add_mid]; exact h3) (by simpa using hfit) (mem_V8 m)
 have e : cs.toArray.toList.take off ++ m.map V8 ++ cs.toArray.toList.drop (off + (m.map V8).length) = new := by rw [List.length_map]; exact hnew
 rw [e, List.length_map] at hr
 unfold Oper.wp
 simp only [execOp, ho, resolve, invoke, builtin, Sem.run_bind, Sem.run_pure, Result.andThen_ok, List.map_toArray, List.map_cons, List.map_nil, hd, hs, hr]
 exact h _ (kp (H.set k hi new))
def RqR (b : By) (again : Bool) (w : World) (en : Ending) (w' : World) : Prop := ∃ x y o a k q, en = .returned (.tuple #[.agg (cat (partsRq x y o a k q)).toArray, .int .i64 (frontE b (if again then 10 else 4))]) ∧ Ext w w' ∧ (frontE b (if again then 10 else 4) = 0 → x = rdF b 0 ∧ y = rdF b 2) ∧ (frontE b (if again then 10 else 4) ≠ 0 → x = 0 ∧ y = 0)
theorem rqR_of {b : By} {again : Bool} {w w' : World} {x y : Int} {o : Vc 6} {a : Option Addr} {k q : Nat} {E : Int} (hE : E = frontE b (if again then 10 else 4)) (hx : frontE b (if again then 10 else 4) = 0 → x = rdF b 0 ∧ y = rdF b 2) {ps : List Lf} (hp : ps = resP E (partsRq x y o a k q) (partsRq 0 0 zv6 none 0 0)) (h : Ext w w') : RqR b again w (.returned (.tuple #[.agg (cat ps).toArray, .int .i64 E])) w' := by
 subst hp hE
 unfold RqR resP
 by_cases c : frontE b (if again then 10 else 4) = 0
 ·rw [if_pos c]; exact ⟨x, y, o, a, k, q, rfl, h, hx, fun h => absurd c h⟩
 ·rw [if_neg c]; exact ⟨0, 0, zv6, none, 0, 0, rfl, h, fun h => absurd h c, fun _ => ⟨rfl, rfl⟩⟩
set_option maxHeartbeats 1600000 in
theorem decReq_no (ad : Option Addr) (n c : Nat) (b : By) (hb : n ≤ 100000) (hcap : n ≤ c) (w : World) (hs : SlB w (.slice ad n c) b) :
  Calls Try.prog 106 #[.slice ad n c, .bool false] w (RqR b false w) := by
 have H := kp (Loc.start w); have HS := kp hs; have HN := kp hs.len; have hb2 : n ≤ 1000000 := by omega
 have HT1 := kp (fun g w1 rest H => rtwo_any ad n c b hb2 hcap 0 (by omega) (readE n) g w w1 rest H hs); generalize hp1 : rdN b 0 (readE n) 2 = p1 at HT1; generalize he1 : rdE b 0 (readE n) 2 = e1 at HT1; have hq1 : p1 ≤ n := by { rw [← hp1]; exact rdN_le HN.out (by omega) }
 have HT2 := kp (fun g w1 rest H => rtwo_any ad n c b hb2 hcap p1 hq1 e1 g w w1 rest H hs); generalize hp2 : rdN b p1 e1 2 = p2 at HT2; generalize he2 : rdE b p1 e1 2 = e2 at HT2; have hq2 : p2 ≤ n := by { rw [← hp2]; exact rdN_le HN.out hq1 }
 have HEL := kp (fun g w1 rest H => relements_any ad n c b hb hcap p2 hq2 e2 g w w1 rest H hs)
 have HF := kp (frontQ b false)
 have HSZ := kp (show elE b p2 e2 = elS b (sQF b false) by subst hp2 he2 hp1 he1; rw [HN.out]; rfl)
 have HX0 := kp (show rd2 b 0 (readE n) = rd2 b (st0 b).1 (st0 b).2 by rw [HN.out]; rfl)
 have HX1 := kp (show rd2 b p1 e1 = rd2 b (s1F b).1 (s1F b).2 by subst hp1 he1; rw [HN.out]; rfl)
 generalize rd2 b 0 (readE n) = x0 at *
 generalize rd2 b p1 e1 = x1 at *
 clear hs hp1 he1 hp2 he2
 go_enter Try.func106, Try.ntmps106
 go_wp2_with (first | ((with_reducible refine isAl 4 87 ?_); (refine L_alloc H rfl 87 rfl (cat (partsRq 0 0 zv6 none 0 0)) (fun _ _ => by kernel_rfl) ?_); clear H; intro g4 w4 HGg4 HEg4 H; simp only [pA]) | (go_at_call 58; refine (read_any ad n c _).mono ?_; rintro e wr ⟨gr, rfl, hl⟩; have H2 := kp (H.out.cons1 hl); clear H hl; have H := H2; clear H2) | (go_at_call 59; with_reducible refine (HT1.out _ _ _ H).mono ?_; rintro e wb ⟨rfl, hl⟩; clear H; have H := kp hl; clear hl) | (go_at_call 59; with_reducible refine (HT2.out _ _ _ H).mono ?_; rintro e wb ⟨rfl, hl⟩; clear H; have H := kp hl; clear hl) | ((with_reducible show wpList _ _ _ (Oper.mk (some 12) (Op.build 87 _) _ _ _ _ :: _) _ _); (refine L_bd (by kernel_rfl) 87 _ rfl (#[(0, .int .u16 x0)]) (by kernel_rfl) (cat (partsRq x0 0 zv6 none 0 0)) (fun w => by kernel_rfl) ?_); simp only [pA]) | (((with_reducible refine isAl 7 87 ?_); (refine L_alloc H rfl 87 rfl (cat (partsRq 0 0 zv6 none 0 0)) (fun _ _ => by kernel_rfl) ?_); clear H; intro g7 w7 HGg7 HEg7 H; simp only [pA]); have H2 := kp H.out.sw; clear H; have H := H2; clear H2) | ((with_reducible refine isSt 87 ?_); refine L_sa H rfl rfl 87 _ _ rfl 1 rfl rfl (partsRq x0 0 zv6 none 0 0) rfl rfl (by kernel_rfl) ?_; clear H; intro wy HWwy H; simp only [ssA, szA] at H) | ((with_reducible refine isSt 54 ?_); (refine L_s1 H rfl rfl 54 _ _ rfl 1 rfl _ rfl _ rfl _ rfl rfl rfl rfl (by kernel_rfl) (partsRq x0 x1 zv6 none 0 0) rfl ?_; clear H; intro wu HWwu H; simp only [ssA, szA] at H)) | (go_at_call 60; refine (HEL.out _ _ _ H).mono ?_; rintro e wc ⟨a, k, q, rfl, hl⟩; clear H; have H := kp hl; clear hl) | ((with_reducible refine isSt 55 ?_); (refine L_s1 H rfl rfl 55 _ _ rfl 1 rfl _ rfl _ rfl _ rfl rfl rfl rfl (by kernel_rfl) (partsRq x0 x1 zv6 a k q) rfl ?_; clear H; intro w7 HWw7 H; simp only [ssA, szA] at H)) | ((with_reducible refine isLd 87 ?_); refine L_fa H rfl 87 _ rfl 1 rfl rfl Try.underlying87 rfl (by kernel_rfl) ?_; simp only [pA]) | (go_at_call 118; refine (resultRq_any _ _ _ _ _ _ _ _ _ _ _ _ _ _ _ H).mono ?_; rintro e wd ⟨rfl, hl⟩; clear H; have H := kp hl; clear hl) | ((with_reducible refine isSt 87 ?_); refine L_sa H rfl rfl 87 _ _ rfl 2 rfl rfl (resP (elE b p2 e2) (partsRq x0 x1 zv6 a k q) (partsRq 0 0 zv6 none 0 0)) rfl ((lsum_resP (m := 9) rfl rfl).symm) (by rw [← (lsum_resP (m := 9) rfl rfl).symm]; kernel_rfl) ?_; clear H; intro ws HWws H; simp only [ssA, szA] at H))
 exact ret_f2 H Try.results106 2 rfl rfl _ rfl Try.underlying87 rfl (by rw [lsum_resP (m := 9) rfl rfl]; kernel_rfl) rfl (rqR_of (by rw [HSZ.out]; exact HF.out.1) (fun h => by rw [HX0.out, HX1.out]; exact HF.out.2 h) rfl H.out.1)
theorem cells_old {x y : Int} (m : By) (hm : m.length = 6) : (cat (partsRq x y zv6 none 0 0)).take 2 ++ m.map V8 ++ (cat (partsRq x y zv6 none 0 0)).drop (2 + m.length) = cat (partsRq x y ⟨m, hm⟩ none 0 0) := by
 obtain ⟨_, _, _, _, _, _, rfl⟩ := six hm
 rfl
set_option maxRecDepth 4000 in
set_option maxHeartbeats 1600000 in
theorem decReq_yes (ad : Option Addr) (n c : Nat) (b : By) (hb : n ≤ 100000) (hcap : n ≤ c) (w : World) (hs : SlB w (.slice ad n c) b) :
  Calls Try.prog 106 #[.slice ad n c, .bool true] w (RqR b true w) := by
 have H := kp (Loc.start w); have HS := kp hs; have HN := kp hs.len; have hb2 : n ≤ 1000000 := by omega
 have HT1 := kp (fun g w1 rest H => rtwo_any ad n c b hb2 hcap 0 (by omega) (readE n) g w w1 rest H hs); generalize hp1 : rdN b 0 (readE n) 2 = p1 at HT1; generalize he1 : rdE b 0 (readE n) 2 = e1 at HT1; have hq1 : p1 ≤ n := by { rw [← hp1]; exact rdN_le HN.out (by omega) }
 have HT2 := kp (fun g w1 rest H => rtwo_any ad n c b hb2 hcap p1 hq1 e1 g w w1 rest H hs); generalize hp2 : rdN b p1 e1 2 = p2 at HT2; generalize he2 : rdE b p1 e1 2 = e2 at HT2; have hq2 : p2 ≤ n := by { rw [← hp2]; exact rdN_le HN.out hq1 }
 have HBY := kp (fun g w1 rest H => bytes_any ad n c b hb2 hcap p2 6 hq2 (by omega) e2 g w w1 rest H hs)
 have HBL := kp (rdB_len b p2 e2 6)
 generalize hp3 : rdN b p2 e2 6 = p3 at *
 generalize he3 : rdE b p2 e2 6 = e3 at *
 have hq3 : p3 ≤ n := by rw [← hp3]; exact rdN_le HN.out hq2
 have HEL := kp (fun g w1 rest H => relements_any ad n c b hb hcap p3 hq3 e3 g w w1 rest H hs)
 have HF := kp (frontQ b true)
 have HSZ := kp (show elE b p3 e3 = elS b (sQF b true) by subst hp3 he3 hp2 he2 hp1 he1; rw [HN.out]; rfl)
 have HX0 := kp (show rd2 b 0 (readE n) = rd2 b (st0 b).1 (st0 b).2 by rw [HN.out]; rfl)
 have HX1 := kp (show rd2 b p1 e1 = rd2 b (s1F b).1 (s1F b).2 by subst hp1 he1; rw [HN.out]; rfl)
 generalize rd2 b 0 (readE n) = x0 at *
 generalize rd2 b p1 e1 = x1 at *
 have HP3 := kp hp3
 have HE3 := kp he3
 clear hs hp1 he1 hp2 he2 hp3 he3
 go_enter Try.func106, Try.ntmps106
 generalize h5 : (Code.region 5 _ _ : Code) = R5
 go_wp2_with (first | ((with_reducible refine isAl 4 87 ?_); (refine L_alloc H rfl 87 rfl (cat (partsRq 0 0 zv6 none 0 0)) (fun _ _ => by kernel_rfl) ?_); clear H; intro g4 w4 HGg4 HEg4 H; simp only [pA]) | (go_at_call 58; refine (read_any ad n c _).mono ?_; rintro e wr ⟨gr, rfl, hl⟩; have H2 := kp (H.out.cons1 hl); clear H hl; have H := H2; clear H2) | (go_at_call 59; with_reducible refine (HT1.out _ _ _ H).mono ?_; rintro e wb ⟨rfl, hl⟩; clear H; have H := kp hl; clear hl) | (go_at_call 59; with_reducible refine (HT2.out _ _ _ H).mono ?_; rintro e wb ⟨rfl, hl⟩; clear H; have H := kp hl; clear hl) | ((with_reducible show wpList _ _ _ (Oper.mk (some 12) (Op.build 87 _) _ _ _ _ :: _) _ _); (refine L_bd (by kernel_rfl) 87 _ rfl (#[(0, .int .u16 x0)]) (by kernel_rfl) (cat (partsRq x0 0 zv6 none 0 0)) (fun w => by kernel_rfl) ?_); simp only [pA]) | (((with_reducible refine isAl 7 87 ?_); (refine L_alloc H rfl 87 rfl (cat (partsRq 0 0 zv6 none 0 0)) (fun _ _ => by kernel_rfl) ?_); clear H; intro g7 w7 HGg7 HEg7 H; simp only [pA]); have H2 := kp H.out.sw; clear H; have H := H2; clear H2) | ((with_reducible refine isSt 87 ?_); refine L_sa H rfl rfl 87 _ _ rfl 1 rfl rfl (partsRq x0 0 zv6 none 0 0) rfl rfl (by kernel_rfl) ?_; clear H; intro wy HWwy H; simp only [ssA, szA] at H) | ((with_reducible refine isSt 54 ?_); (refine L_s1 H rfl rfl 54 _ _ rfl 1 rfl _ rfl _ rfl _ rfl rfl rfl rfl (by kernel_rfl) (partsRq x0 x1 zv6 none 0 0) rfl ?_; clear H; intro wu HWwu H; simp only [ssA, szA] at H)))
 subst h5
 have HBY2 := kp (HBY.out _ _ _ (kp (H.out.ext (Ext.drew _))))
 have HNE := kp (show rdB b p2 e2 6 ≠ [] from fun e => by have := HBL.out; rw [e] at this; simp at this)
 clear H
 go_region_law (first | (refine step_callF rfl 88 Try.func88 (by decide) (by decide) _ _ rfl _ (by simp [Act.eval, Act.put]) HBY2.out ?_; rintro e w1 ⟨v, rfl, ho, hl⟩; rw [HP3.out, HE3.out] at hl; obtain ⟨av, cv, rfl, hcv⟩ := owns_formN ho; obtain ⟨b9, o9, rfl⟩ := (SlB.of_owns ho).ne HNE.out; have HO := kp ho; have HL := kp hl; clear ho hl; refine ⟨_, rfl, ?_⟩) | (refine step_cpB HL.out rfl _ _ rfl 1 rfl 2 6 6 (by simp [Act.eval]) b9 o9 (rdB b p2 e2 6).length cv (rdB b p2 e2 6) (by simp [Act.eval]) (SlB.of_owns HO.out) (by rw [HBL.out]; exact Nat.le_refl _) (by rw [HBL.out, cat_len]; exact Nat.le_of_ble_eq_true rfl) (cat (partsRq x0 x1 ⟨_, HBL.out⟩ none 0 0)) (cells_old _ HBL.out) ?_; intro w2 H))
 obtain ⟨oo, hoo⟩ : ∃ oo : Vc 6, oo = ⟨rdB b p2 e2 6, HBL.out⟩ := ⟨_, rfl⟩
 have HOO := kp hoo
 rw [← hoo] at H
 clear hoo HL HO HBY2
 go_wp2_with (first | (go_at_call 60; refine (HEL.out _ _ _ H).mono ?_; rintro e wc ⟨a, k, q, rfl, hl⟩; clear H; have H := kp hl; clear hl) | ((with_reducible refine isSt 55 ?_); (refine L_s1 H rfl rfl 55 _ _ rfl 1 rfl _ rfl _ rfl _ rfl rfl rfl rfl (by kernel_rfl) (partsRq x0 x1 oo a k q) rfl ?_; clear H; intro w7 HWw7 H; simp only [ssA, szA] at H)) | ((with_reducible refine isLd 87 ?_); refine L_fa H rfl 87 _ rfl 1 rfl rfl Try.underlying87 rfl (by kernel_rfl) ?_; simp only [pA]) | (go_at_call 118; refine (resultRq_any _ _ _ _ _ _ _ _ _ _ _ _ _ _ _ H).mono ?_; rintro e wd ⟨rfl, hl⟩; clear H; have H := kp hl; clear hl) | ((with_reducible refine isSt 87 ?_); refine L_sa H rfl rfl 87 _ _ rfl 2 rfl rfl (resP (elE b p3 e3) (partsRq x0 x1 oo a k q) (partsRq 0 0 zv6 none 0 0)) rfl ((lsum_resP (m := 9) rfl rfl).symm) (by rw [← (lsum_resP (m := 9) rfl rfl).symm]; kernel_rfl) ?_; clear H; intro ws HWws H; simp only [ssA, szA] at H))
 exact ret_f2 H Try.results106 2 rfl rfl _ rfl Try.underlying87 rfl (by rw [lsum_resP (m := 9) rfl rfl]; kernel_rfl) rfl (rqR_of (by rw [HSZ.out]; exact HF.out.1) (fun h => by rw [HX0.out, HX1.out]; exact HF.out.2 h) rfl H.out.1)
def partsE (e : En) (h : e.addr.length = 6) : List Lf := [Lf.v ⟨e.addr, h⟩, Lf.i .u8 e.state, Lf.i .i64 e.aid, Lf.i .i64 e.caps, Lf.i .i64 e.listen, Lf.i .i64 e.seen]
theorem cat_E (e : En) (h : e.addr.length = 6) : cellsE e = cat (partsE e h) := by simp [partsE, cat, cellsE]
def partsA (a : As) (h : a.own.length = 6) (ad : Option Addr) (n c : Nat) : List Lf := [Lf.v ⟨a.own, h⟩, Lf.i .i64 a.caps, Lf.i .i64 a.limit, Lf.i .i64 a.idle, Lf.s ad n c]
theorem cat_A (a : As) (h : a.own.length = 6) (ad : Option Addr) (n c : Nat) : cellsA a (.slice ad n c) = cat (partsA a h ad n c) := by simp [partsA, cat, cellsA]
def partsH (h : Hd) (k : h.Ok) : List Lf := [Lf.i .u8 h.kind, Lf.i .u8 h.sub, Lf.b h.toDs, Lf.b h.fromDs, Lf.b h.more, Lf.b h.retry, Lf.b h.sleep, Lf.b h.mdata, Lf.b h.prot, Lf.i .i64 h.dur, Lf.v ⟨h.a1, k.l1⟩, Lf.v ⟨h.a2, k.l2⟩, Lf.v ⟨h.a3, k.l3⟩, Lf.v ⟨h.a4, k.l4⟩, Lf.i .i64 h.seq, Lf.i .i64 h.frag, Lf.i .i64 h.tid, Lf.i .u8 h.ack, Lf.b h.amsdu, Lf.b h.eosp]
theorem cat_H (h : Hd) (k : h.Ok) : cellsH h = cat (partsH h k) := by simp [partsH, cat, cellsH]
def partsFr (h : Hd) (k : h.Ok) (ad : Option Addr) (n c : Nat) : List Lf := partsH h k ++ [Lf.s ad n c]
theorem cat_Fr (h : Hd) (k : h.Ok) (ad : Option Addr) (n c : Nat) : cellsH h ++ [.slice ad n c] = cat (partsFr h k ad n c) := by rw [partsFr, cat_append, cat_H h k]; rfl
end Go.Proofs.Ytfecopfofkdnpaa
namespace Go.Proofs.Ytfecopfofkdnpaa
open Go.RowKit
open Go.ChangeShapes Go.WideShapes Go.ChangeAt Go.RowKit
section
variable {P : Program} {H : Type} {enc : TypeId × Value → H} {w : World}
theorem bv_of_wf {m : Nat} (k : IntKind) (hm : (k = .u8 ∧ m = 8) ∨ (k = .u32 ∧ m = 32) ∨ (k = .u64 ∧ m = 64)) {n : Int} (h : (Lit.int k n).wf = true) : ∃ x : BitVec m, n = wI x := by
 have hb : 0 ≤ n ∧ n < (2 : Int) ^ m := by
  rcases hm with ⟨rfl, rfl⟩ | ⟨rfl, rfl⟩ | ⟨rfl, rfl⟩ <;>
   (simp [Lit.wf, IntKind.min, IntKind.max, IntKind.signed, IntKind.bits] at h; omega)
 obtain ⟨q, rfl⟩ := Int.eq_ofNat_of_zero_le hb.1
 have hq : q < 2 ^ m := by have := hb.2; exact_mod_cast this
 exact ⟨BitVec.ofNat m q, by unfold wI; rw [BitVec.toNat_ofNat, Nat.mod_eq_of_lt hq]⟩
end
def Tr {H : Type} (enc : TypeId × Value → H) (P : Program) (w : World) (base : Nat) (T : TypeId) (cs : List Value) : Prop := ∃ fuel x, DataW.trod enc P w base (fun _ => true) true fuel T cs = some x
theorem spot_none {w : World} {a : Addr} {v : Value} (h : w.cell? a = some v) : a.spot = none := by
 unfold World.cell? at h
 split at h
 ·split at h
  ·cases h
  ·rename_i h2; cases hs : a.spot with
   | none => rfl
   | some s => rw [hs] at h2; exact absurd rfl h2
 ·cases h
section
variable {H : Type} {enc : TypeId × Value → H} {P : Program} {w : World} {base : Nat} {T : TypeId} {cs : List Value}
theorem Tr.of {v : Value} {d : DataW H} {p : List MemPlace} (h : DataW.Trod enc P w base (fun _ => true) true T v d p) : Tr enc P w base T v.cells.toList := by
 obtain ⟨fuel, hf⟩ := h; exact ⟨fuel, _, hf⟩
theorem Tr.int {k : IntKind} (hT : P.underlying T = some (.int k)) (h : Tr enc P w base T cs) : ∃ n, cs = [.int k n] ∧ (Lit.int k n).wf = true := by
 obtain ⟨f, x, h⟩ := h
 obtain ⟨n, h1, _, h2⟩ := DataW.trod_int hT h
 exact ⟨n, h1, h2⟩
theorem Tr.bool (hT : P.underlying T = some .bool) (h : Tr enc P w base T cs) : ∃ b, cs = [.bool b] := by
 obtain ⟨f, x, h⟩ := h
 obtain ⟨b, h1, _⟩ := DataW.trod_bool hT h
 exact ⟨b, h1⟩
theorem Tr.struct {fs : Array Field} (hT : P.underlying T = some (.struct fs)) (h : Tr enc P w base T cs) : cs.length = P.cellsOf T ∧ ∀ (i : Nat) (f : Field), fs[i]? = some f → Tr enc P w base f.type ((cs.drop f.offset).take (P.cellsOf f.type)) := by
 obtain ⟨f, x, h⟩ := h
 obtain ⟨xs, n, _, _, hl, hn, hf⟩ := DataW.trod_struct hT h
 refine ⟨hl, fun i f hi => ?_⟩
 have h1 := hf i f hi
 have hlt := (Array.getElem?_eq_some_iff.1 hi).1
 rw [List.getElem?_eq_getElem (by omega)] at h1
 exact ⟨n, _, h1⟩
theorem Tr.field {fs : Array Field} (hT : P.underlying T = some (.struct fs)) (h : Tr enc P w base T cs) (i t off n : Nat) (hf : (fs[i]?).map (fun f => (f.type, f.offset)) = some (t, off)) (hn : P.cellsOf t = n) : Tr enc P w base t ((cs.drop off).take n) := by
 cases hq : fs[i]? with
 | none => rw [hq] at hf; cases hf
 | some f =>
  rw [hq] at hf
  have h1 := (h.struct hT).2 i f hq
  cases hf
  rw [← hn]; exact h1
theorem Tr.len {fs : Array Field} (hT : P.underlying T = some (.struct fs)) (h : Tr enc P w base T cs) (n : Nat) (hn : P.cellsOf T = n) : cs.length = n := by rw [← hn]; exact (h.struct hT).1
theorem Tr.array {n : Nat} {e : TypeId} (hT : P.underlying T = some (.array n e)) (h : Tr enc P w base T cs) : cs.length = P.cellsOf T ∧ ∀ i : Nat, i < n → Tr enc P w base e ((cs.drop (i * P.cellsOf e)).take (P.cellsOf e)) := by
 obtain ⟨f, x, h⟩ := h
 obtain ⟨xs, m, _, _, hl, hn, hf⟩ := DataW.trod_array hT h
 refine ⟨hl, fun i hi => ?_⟩
 have h1 := hf i hi
 rw [List.getElem?_eq_getElem (by omega)] at h1
 exact ⟨m, _, h1⟩
theorem Tr.slice {e : TypeId} (hT : P.underlying T = some (.slice e)) (hc : 0 < P.cellsOf e) (h : Tr enc P w base T cs) : ∃ (ad : Option Addr) (len cap : Nat), cs = [.slice ad len cap] ∧ len ≤ cap ∧ cap ≤ maxLen ∧ (ad = none → len = 0 ∧ cap = 0) ∧
  ∀ i : Nat, i < len → ∃ b off es, ad = some ⟨b, off, none⟩ ∧ b < w.heap.size ∧ es.length = P.cellsOf e ∧ Tr enc P w base e es ∧ w.rangeAt b (off + i * P.cellsOf e) es := by
 obtain ⟨f, x, h⟩ := h
 rcases Deep.open_slice hT h with ⟨h0, _⟩ | ⟨a, len, cap, m, n, D, Pl, h1, h2, h3, h4, hm, _, hx⟩
 ·exact ⟨none, 0, 0, h0, Nat.le_refl _, Nat.zero_le _, (fun _ => ⟨rfl, rfl⟩), fun i hi => absurd hi (by omega)⟩
 ·refine ⟨some a, len, cap, h1, h3, h4, (fun h => by cases h), fun i hi => ?_⟩
  have hsp : a.spot = none := by
   obtain ⟨es, he, _⟩ := hx 0 (by rw [hm]; simp; omega)
   obtain ⟨_, hl, hcell⟩ := World.cells?_some he
   have h0 := hcell 0 hc
   rw [List.getElem?_eq_getElem (by omega)] at h0
   rw [show (a.add (0 * P.cellsOf e)).add 0 = a by simp [Addr.add]] at h0
   exact spot_none h0
  obtain ⟨b, off, s⟩ := a
  cases hsp
  obtain ⟨es, he, ht⟩ := hx i (by rw [hm]; simp; omega)
  obtain ⟨_, hl, hcell⟩ := World.cells?_some he
  have hr : w.rangeAt b (off + i * P.cellsOf e) es := fun j v hv => by
   have hj := (List.getElem?_eq_some_iff.1 hv).1
   have h0 := hcell j (by omega)
   rw [Addr.add_mid, Addr.add_mid, hv] at h0
   exact h0
  have h0 : ∃ v, es[0]? = some v := ⟨es[0]'(by omega), by simp⟩
  obtain ⟨v, hv⟩ := h0
  exact ⟨b, off, es, rfl, block_lt_of_cell (hr 0 v hv), hl, ⟨n, _, ht⟩, hr⟩
theorem bytes_of {m : List Value} (h : ∀ i : Nat, i < m.length → ∃ n, m[i]? = some (.int .u8 n) ∧ (Lit.int .u8 n).wf = true) : ∃ l : List (BitVec 8), m = l.map V8 := by
 induction m with
 | nil => exact ⟨[], rfl⟩
 | cons v m ih =>
  obtain ⟨l, hl⟩ := ih fun i hi => by simpa using h (i + 1) (by simpa using hi)
  obtain ⟨n, hn, hw⟩ := h 0 (by simp)
  obtain ⟨x, rfl⟩ := bv_of_wf (m := 8) .u8 (.inl ⟨rfl, rfl⟩) hw
  have : v = V8 x := by simpa using hn
  exact ⟨x :: l, by rw [this, hl]; rfl⟩
theorem Tr.bytes {n : Nat} {e : TypeId} (hT : P.underlying T = some (.array n e)) (hE : P.underlying e = some (.int .u8)) (hc : P.cellsOf e = 1) (hC : P.cellsOf T = n) (h : Tr enc P w base T cs) : ∃ l : List (BitVec 8), l.length = n ∧ cs = l.map V8 := by
 obtain ⟨hl, ha⟩ := h.array hT
 rw [hC] at hl
 obtain ⟨l, rfl⟩ := bytes_of (m := cs) fun i hi => by
  obtain ⟨k, hk, hw⟩ := (ha i (by omega)).int hE
  rw [hc] at hk
  refine ⟨k, ?_, hw⟩
  have : ((cs.drop (i * 1)).take 1)[0]? = some (.int .u8 k) := by rw [hk]; rfl
  simpa using this
 exact ⟨l, by simpa using hl, rfl⟩
theorem Tr.slb {e : TypeId} (hT : P.underlying T = some (.slice e)) (hE : P.underlying e = some (.int .u8)) (hc : P.cellsOf e = 1) (h : Tr enc P w base T cs) : ∃ (ad : Option Addr) (cap : Nat) (l : List (BitVec 8)), cs = [.slice ad l.length cap] ∧ l.length ≤ cap ∧ cap ≤ maxLen ∧ (ad = none → cap = 0) ∧ SlB w (.slice ad l.length cap) l := by
 obtain ⟨ad, len, cap, h1, h2, h3, h4, h5⟩ := h.slice hT (by omega)
 have key : ∀ k, k ≤ len → ∃ l : List (BitVec 8), l.length = k ∧ ∀ j x, l[j]? = some x → ∃ b off, ad = some ⟨b, off, none⟩ ∧ b < w.heap.size ∧ w.cell? ⟨b, off + j, none⟩ = some (V8 x) := by
  intro k
  induction k with
  | zero => intro _; exact ⟨[], rfl, fun j x hj => by simp at hj⟩
  | succ k ih =>
   intro hk
   obtain ⟨l, hl, hL⟩ := ih (by omega)
   obtain ⟨b, off, es, ha, hb, hel, ht, hr⟩ := h5 k (by omega)
   obtain ⟨n, hn, hw⟩ := ht.int hE
   obtain ⟨x, rfl⟩ := bv_of_wf (m := 8) .u8 (.inl ⟨rfl, rfl⟩) hw
   refine ⟨l ++ [x], by simp [hl], fun j y hy => ?_⟩
   by_cases hj : j < l.length
   ·rw [List.getElem?_append_left hj] at hy; exact hL j y hy
   ·rw [List.getElem?_append_right (by omega)] at hy
    have hj0 : j - l.length = 0 := by
     have := (List.getElem?_eq_some_iff.1 hy).1
     simp at this; omega
    rw [hj0] at hy
    have : x = y := by simpa using hy
    subst this
    refine ⟨b, off, ha, hb, ?_⟩
    have h0 := hr 0 (V8 x) (by rw [hn]; rfl)
    rw [hc] at h0
    rwa [show off + k * 1 + 0 = off + j by omega] at h0
 obtain ⟨l, hl, hL⟩ := key len (Nat.le_refl _)
 subst hl
 refine ⟨ad, cap, l, h1, h2, h3, fun h => (h4 h).2, ?_⟩
 cases l with
 | nil =>
  refine .inl ⟨rfl, ?_⟩
  cases ad with
  | none => obtain ⟨_, rfl⟩ := h4 rfl; exact .inl rfl
  | some a => exact .inr ⟨a, cap, rfl⟩
 | cons x l =>
  obtain ⟨b, off, rfl, hb, _⟩ := hL 0 x rfl
  refine .inr ⟨b, off, cap, rfl, hb, fun j y hy => ?_⟩
  obtain ⟨b', off', he, _, hc'⟩ := hL j y hy
  cases he
  exact hc'
end
end Go.Proofs.Ytfecopfofkdnpaa
namespace Go.Proofs.Ytfecopfofkdnpaa
open Go.RowKit Go.WideShapes
def cellsF (h : Hd) (v : Value) : List Value := cellsH h ++ [v]
section
variable {H : Type} {enc : TypeId × Value → H} {w : World} {base : Nat} {cs : List Value}
theorem peel {cs l : List Value} {o n : Nat} (h : (cs.drop o).take n = l) : cs.drop o = l ++ cs.drop (o + n) := by rw [← h, ← List.drop_drop, List.take_append_drop]
theorem u8_wf {n : Int} (h : (Lit.int .u8 n).wf = true) : 0 ≤ n ∧ n < 256 := by
 obtain ⟨x, rfl⟩ := bv_of_wf (m := 8) .u8 (.inl ⟨rfl, rfl⟩) h
 have := x.isLt
 unfold wI
 omega
theorem Tr.addr (h : Tr enc Try.prog w base 23 cs) : ∃ l : List (BitVec 8), l.length = 6 ∧ cs = l.map V8 :=
 h.bytes Try.underlying23 Try.underlying5 (by kernel_rfl) (by kernel_rfl)
theorem Tr.header (h : Tr enc Try.prog w base 28 cs) : ∃ x : Hd, x.Ok ∧ cs = cellsH x := by
 have hl := h.len Try.underlying28 40 (by kernel_rfl)
 obtain ⟨k, h0, w0⟩ := (h.field Try.underlying28 0 5 0 1 rfl (by kernel_rfl)).int Try.underlying5
 obtain ⟨s, h1, w1⟩ := (h.field Try.underlying28 1 5 1 1 rfl (by kernel_rfl)).int Try.underlying5
 obtain ⟨b2, h2⟩ := (h.field Try.underlying28 2 4 2 1 rfl (by kernel_rfl)).bool Try.underlying4
 obtain ⟨b3, h3⟩ := (h.field Try.underlying28 3 4 3 1 rfl (by kernel_rfl)).bool Try.underlying4
 obtain ⟨b4, h4⟩ := (h.field Try.underlying28 4 4 4 1 rfl (by kernel_rfl)).bool Try.underlying4
 obtain ⟨b5, h5⟩ := (h.field Try.underlying28 5 4 5 1 rfl (by kernel_rfl)).bool Try.underlying4
 obtain ⟨b6, h6⟩ := (h.field Try.underlying28 6 4 6 1 rfl (by kernel_rfl)).bool Try.underlying4
 obtain ⟨b7, h7⟩ := (h.field Try.underlying28 7 4 7 1 rfl (by kernel_rfl)).bool Try.underlying4
 obtain ⟨b8, h8⟩ := (h.field Try.underlying28 8 4 8 1 rfl (by kernel_rfl)).bool Try.underlying4
 obtain ⟨du, h9, _⟩ := (h.field Try.underlying28 9 3 9 1 rfl (by kernel_rfl)).int Try.underlying3
 obtain ⟨a1, l1, h10⟩ := Tr.addr (h.field Try.underlying28 10 23 10 6 rfl (by kernel_rfl))
 obtain ⟨a2, l2, h11⟩ := Tr.addr (h.field Try.underlying28 11 23 16 6 rfl (by kernel_rfl))
 obtain ⟨a3, l3, h12⟩ := Tr.addr (h.field Try.underlying28 12 23 22 6 rfl (by kernel_rfl))
 obtain ⟨a4, l4, h13⟩ := Tr.addr (h.field Try.underlying28 13 23 28 6 rfl (by kernel_rfl))
 obtain ⟨sq, h14, _⟩ := (h.field Try.underlying28 14 3 34 1 rfl (by kernel_rfl)).int Try.underlying3
 obtain ⟨fr, h15, _⟩ := (h.field Try.underlying28 15 3 35 1 rfl (by kernel_rfl)).int Try.underlying3
 obtain ⟨ti, h16, _⟩ := (h.field Try.underlying28 16 3 36 1 rfl (by kernel_rfl)).int Try.underlying3
 obtain ⟨ac, h17, w17⟩ := (h.field Try.underlying28 17 5 37 1 rfl (by kernel_rfl)).int Try.underlying5
 obtain ⟨am, h18⟩ := (h.field Try.underlying28 18 4 38 1 rfl (by kernel_rfl)).bool Try.underlying4
 obtain ⟨eo, h19⟩ := (h.field Try.underlying28 19 4 39 1 rfl (by kernel_rfl)).bool Try.underlying4
 refine ⟨⟨k, s, b2, b3, b4, b5, b6, b7, b8, du, a1, a2, a3, a4, sq, fr, ti, ac, am, eo⟩, ⟨(u8_wf w0).1, (u8_wf w0).2, (u8_wf w1).1, (u8_wf w1).2, (u8_wf w17).1, (u8_wf w17).2, l1, l2, l3, l4⟩, ?_⟩
 have hend : cs.drop 40 = [] := List.drop_eq_nil_of_le (by omega)
 rw [show cs = cs.drop 0 from rfl, peel h0, peel h1, peel h2, peel h3, peel h4, peel h5, peel h6, peel h7, peel h8, peel h9, peel h10, peel h11, peel h12, peel h13, peel h14, peel h15, peel h16, peel h17, peel h18, peel h19]
 simp only [Nat.reduceAdd, hend, cellsH, List.append_nil, List.cons_append, List.nil_append]
theorem Tr.entry (h : Tr enc Try.prog w base 39 cs) : ∃ x : En, x.Ok ∧ cs = cellsE x := by
 have hl := h.len Try.underlying39 11 (by kernel_rfl)
 obtain ⟨a, la, h0⟩ := Tr.addr (h.field Try.underlying39 0 23 0 6 rfl (by kernel_rfl))
 obtain ⟨s, h1, w1⟩ := (h.field Try.underlying39 1 5 6 1 rfl (by kernel_rfl)).int Try.underlying5
 obtain ⟨ai, h2, _⟩ := (h.field Try.underlying39 2 3 7 1 rfl (by kernel_rfl)).int Try.underlying3
 obtain ⟨ca, h3, _⟩ := (h.field Try.underlying39 3 3 8 1 rfl (by kernel_rfl)).int Try.underlying3
 obtain ⟨li, h4, _⟩ := (h.field Try.underlying39 4 3 9 1 rfl (by kernel_rfl)).int Try.underlying3
 obtain ⟨se, h5, _⟩ := (h.field Try.underlying39 5 3 10 1 rfl (by kernel_rfl)).int Try.underlying3
 refine ⟨⟨a, s, ai, ca, li, se⟩, ⟨la, (u8_wf w1).1, (u8_wf w1).2⟩, ?_⟩
 have hend : cs.drop 11 = [] := List.drop_eq_nil_of_le (by omega)
 rw [show cs = cs.drop 0 from rfl, peel h0, peel h1, peel h2, peel h3, peel h4, peel h5]
 simp only [Nat.reduceAdd, hend, cellsE, List.append_nil, List.cons_append, List.nil_append]
theorem Tr.entries (h : Tr enc Try.prog w base 24 cs) : ∃ (v : Value) (es : List En), cs = [v] ∧ SlT 11 cellsE w v es ∧ (∀ e ∈ es, e.Ok) ∧ es.length ≤ 9223372036854775807 := by
 obtain ⟨a, ln, cp, h1, h2, h3, h4, h5⟩ := h.slice Try.underlying24 (by rw [show Try.prog.cellsOf 39 = 11 by kernel_rfl]; decide)
 simp only [show Try.prog.cellsOf 39 = 11 by kernel_rfl] at h5
 have key : ∀ k, k ≤ ln → ∃ l : List En, l.length = k ∧ (∀ q ∈ l, q.Ok) ∧ ∀ (j : Nat) q, l[j]? = some q → ∃ b off, a = some ⟨b, off, none⟩ ∧ b < w.heap.size ∧ w.rangeAt b (off + j * 11) (cellsE q) := by
  intro k
  induction k with
  | zero => intro _; exact ⟨[], rfl, fun q hq => (by cases hq), fun j x hj => by simp at hj⟩
  | succ k ih =>
   intro hk
   obtain ⟨l, hl, h16, hL⟩ := ih (by omega)
   obtain ⟨b, off, es, ha, hb, hel, ht, hr⟩ := h5 k (by omega)
   obtain ⟨q, hq16, rfl⟩ := ht.entry
   refine ⟨l ++ [q], by simp [hl], fun x hx => by rcases List.mem_append.1 hx with hx | hx; exact h16 x hx; simp at hx; rw [hx]; exact hq16, fun j y hy => ?_⟩
   by_cases hj : j < l.length
   ·rw [List.getElem?_append_left hj] at hy; exact hL j y hy
   ·rw [List.getElem?_append_right (by omega)] at hy
    have hj0 : j - l.length = 0 := by
     have := (List.getElem?_eq_some_iff.1 hy).1
     simp at this; omega
    rw [hj0] at hy
    have : q = y := by simpa using hy
    subst this
    obtain rfl : j = k := by omega
    exact ⟨b, off, ha, hb, hr⟩
 obtain ⟨l, hl, h16, hL⟩ := key ln (Nat.le_refl _)
 exact ⟨_, l, h1, ⟨a, ln, cp, rfl, hl.symm, h2, hL⟩, h16, by unfold maxLen at h3; omega⟩
theorem Tr.assoc (h : Tr enc Try.prog w base 26 cs) : ∃ (x : As) (v : Value) (es : List En), x.own.length = 6 ∧ SlT 11 cellsE w v es ∧ (∀ e ∈ es, e.Ok) ∧ es.length ≤ 9223372036854775807 ∧ cs = cellsA x v := by
 have hl := h.len Try.underlying26 10 (by kernel_rfl)
 obtain ⟨a, la, h0⟩ := Tr.addr (h.field Try.underlying26 0 23 0 6 rfl (by kernel_rfl))
 obtain ⟨ca, h1, _⟩ := (h.field Try.underlying26 1 3 6 1 rfl (by kernel_rfl)).int Try.underlying3
 obtain ⟨li, h2, _⟩ := (h.field Try.underlying26 2 3 7 1 rfl (by kernel_rfl)).int Try.underlying3
 obtain ⟨di, h3, _⟩ := (h.field Try.underlying26 3 3 8 1 rfl (by kernel_rfl)).int Try.underlying3
 obtain ⟨v, es, h4, hs, hok, hn⟩ := Tr.entries (h.field Try.underlying26 4 24 9 1 rfl (by kernel_rfl))
 refine ⟨⟨a, ca, li, di⟩, v, es, la, hs, hok, hn, ?_⟩
 have hend : cs.drop 10 = [] := List.drop_eq_nil_of_le (by omega)
 rw [show cs = cs.drop 0 from rfl, peel h0, peel h1, peel h2, peel h3, peel h4]
 simp only [Nat.reduceAdd, hend, cellsA, List.append_nil, List.cons_append, List.nil_append]
theorem Tr.frame (h : Tr enc Try.prog w base 31 cs) : ∃ (x : Hd) (ad : Option Addr) (cap : Nat) (l : List (BitVec 8)), x.Ok ∧ l.length ≤ cap ∧ cap ≤ maxLen ∧ (ad = none → cap = 0) ∧ SlB w (.slice ad l.length cap) l ∧ cs = cellsF x (.slice ad l.length cap) := by
 have hl := h.len Try.underlying31 41 (by kernel_rfl)
 obtain ⟨x, hx, h0⟩ := Tr.header (h.field Try.underlying31 0 28 0 40 rfl (by kernel_rfl))
 obtain ⟨ad, cap, l, h1, q1, q2, q3, q4⟩ := (h.field Try.underlying31 1 29 40 1 rfl (by kernel_rfl)).slb Try.underlying29 Try.underlying5 (by kernel_rfl)
 refine ⟨x, ad, cap, l, hx, q1, q2, q3, q4, ?_⟩
 have hend : cs.drop 41 = [] := List.drop_eq_nil_of_le (by omega)
 rw [show cs = cs.drop 0 from rfl, peel h0, peel h1]
 simp only [Nat.reduceAdd, hend, List.append_nil, cellsF]
end
set_option maxRecDepth 10000 in
theorem open_assoc {H : Type} {enc : TypeId × Value → H} {w : World} {r : Reach} {b0 base : Nat} {v : Value} {d : DataW H} {p : List MemPlace}
  (hv : Value.okWide Try.prog w r b0 26 v) (h : DataW.Trod enc Try.prog w base (fun _ => true) true 26 v d p) : ∃ (x : As) (u : Value) (es : List En), x.own.length = 6 ∧ SlT 11 cellsE w u es ∧ (∀ e ∈ es, e.Ok) ∧ es.length ≤ 9223372036854775807 ∧ v = .agg (cellsA x u).toArray := by
 obtain ⟨cs, hcs, _⟩ := okWide_struct (P := Try.prog) Try.underlying26 hv
 have ht := Tr.of h
 rw [hcs] at ht
 obtain ⟨x, u, es, h1, h2, h3, h4, h5⟩ := ht.assoc
 refine ⟨x, u, es, h1, h2, h3, h4, ?_⟩
 have h5 : cs.toList = cellsA x u := h5
 rw [hcs, ← h5]
theorem msg_ok {a : As} {t : By} {sub : Int} (ha : a.own.length = 6) (ht : t.length = 6) (h0 : 0 ≤ sub) (h1 : sub < 256) : (msgH a t sub).Ok := ⟨Int.le_refl _, by show (0:Int) < 256; omega, h0, h1, by show (0:Int) ≤ 0; omega, by show (0:Int) < 256; omega, ht, ha, ha, rfl⟩
theorem build_msg (a : As) (t : By) (sub : Int) (ha : a.own.length = 6) (ht : t.length = 6) (w : World) : (Instr.build 28 #[(0, .int .u8 0), (1, .int .u8 sub), (10, .agg (t.map V8).toArray), (11, .agg (a.own.map V8).toArray), (12, .agg (a.own.map V8).toArray)]).run Try.prog w = .ok (.agg (cellsH (msgH a t sub)).toArray) w := by
 obtain ⟨own, ca, li, id⟩ := a
 dsimp only at ha
 obtain ⟨_, _, _, _, _, _, rfl⟩ := six ha
 obtain ⟨_, _, _, _, _, _, rfl⟩ := six ht
 kernel_rfl
theorem build_fr (a : As) (t : By) (sub : Int) (ha : a.own.length = 6) (ht : t.length = 6) (ad : Option Addr) (n c : Nat) (w : World) : (Instr.build 31 #[(0, .agg (cellsH (msgH a t sub)).toArray), (1, .slice ad n c)]).run Try.prog w = .ok (.agg (cellsF (msgH a t sub) (.slice ad n c)).toArray) w := by
 obtain ⟨own, ca, li, id⟩ := a
 dsimp only at ha
 obtain ⟨_, _, _, _, _, _, rfl⟩ := six ha
 obtain ⟨_, _, _, _, _, _, rfl⟩ := six ht
 kernel_rfl
def hd0 : Hd := ⟨0, 0, false, false, false, false, false, false, false, 0, zero6, zero6, zero6, zero6, 0, 0, 0, 0, false, false⟩
theorem len_F {h : Hd} (k : h.Ok) (v : Value) : (cellsF h v).length = 41 := by simp [cellsF, cellsH, k.l1, k.l2, k.l3, k.l4]
theorem one_F (h : Hd) (ad : Option Addr) (n c : Nat) : (cellsF h (.slice ad n c)).toArray.all (·.oneCell') = true := by simp [cellsF, cellsH, Value.oneCell', List.all_map, Function.comp_def]
set_option maxHeartbeats 1600000 in
theorem message_any (a : As) (ha : a.own.length = 6) (v : Value) (t : By) (ht : t.length = 6) (sub : Int) (h0 : 0 ≤ sub) (h1 : sub < 256) (ad : Option Addr) (n c : Nat) (e0 : Int) (w : World) :
  Calls Try.prog 87 #[.agg (cellsA a v).toArray, .agg (t.map V8).toArray, .int .u8 sub, .slice ad n c, .int .i64 e0] w fun e w' => e = .returned (.agg (cellsF (msgH a t sub) (.slice ad n c)).toArray) ∧ Ext w w' := by
 have H := kp (Loc.start w)
 have HB1 := kp (build_msg a t sub ha ht)
 have HB2 := kp (build_fr a t sub ha ht ad n c)
 have HZT := kp (sizeA8a ht)
 have HZO := kp (sizeA8a ha)
 have HP0 := kp (cellsA_own (a := a) v ha)
 have HOK := kp (msg_ok ha ht h0 h1)
 have HZF := kp (show (Try.prog.info? 31).map (·.size) = some (cellsF (msgH a t sub) (.slice ad n c)).toArray.size by rw [List.size_toArray, len_F HOK.out]; kernel_rfl)
 have HLF := kp (show (cellsF hd0 (.slice none 0 0)).length = (cellsF (msgH a t sub) (.slice ad n c)).length by rw [len_F HOK.out]; rfl)
 have HO1 := kp (one_F (msgH a t sub) ad n c)
 clear ha ht h0 h1
 go_enter Try.func87, Try.ntmps87
 go_wp2_with (first | ((with_reducible refine isBx 5 26 ?_); (with_reducible refine L_box H rfl 26 _ rfl (cellsA a v) rfl ?_); clear H; intro g5 w5 HGg5 HEg5 H; simp only [pA]) | ((with_reducible refine isBx 6 23 ?_); (with_reducible refine L_box H rfl 23 _ rfl (t.map V8) rfl ?_); clear H; intro g6 w6 HGg6 HEg6 H; simp only [pA]) | ((with_reducible refine isAl 10 31 ?_); (with_reducible refine L_alloc H rfl 31 rfl (cellsF hd0 (.slice none 0 0)) (fun _ _ => by kernel_rfl) ?_); clear H; intro g10 w10 HGg10 HEg10 H; simp only [pA]) | ((with_reducible refine isLd 23 ?_); (refine wpList_load_rowG (by kernel_rfl) 23 _ rfl (g6) rfl 23 (t.map V8).toArray (0, 0) _ (H.out.at 1 rfl) Try.underlying23 rfl (HZT.out) ?_); simp only [pA]) | ((with_reducible refine isLd 23 ?_); refine L_subG H (by kernel_rfl) 23 _ rfl 2 rfl (0) rfl (a.own.map V8) (HP0.out) Try.underlying23 rfl (HZO.out) ?_; simp only [pA]) | ((with_reducible show wpList _ _ _ (Oper.mk (some 17) (Op.build 28 _) _ _ _ _ :: _) _ _); (refine L_bd (by kernel_rfl) 28 _ rfl (#[(0, .int .u8 0), (1, .int .u8 sub), (10, .agg (t.map V8).toArray), (11, .agg (a.own.map V8).toArray), (12, .agg (a.own.map V8).toArray)]) (by kernel_rfl) (cellsH (msgH a t sub)) (HB1.out) ?_); simp only [pA]) | ((with_reducible show wpList _ _ _ (Oper.mk (some 19) (Op.build 31 _) _ _ _ _ :: _) _ _); (refine L_bd (by kernel_rfl) 31 _ rfl (#[(0, .agg (cellsH (msgH a t sub)).toArray), (1, .slice ad n c)]) (by kernel_rfl) (cellsF (msgH a t sub) (.slice ad n c)) (HB2.out) ?_); simp only [pA]) | ((with_reducible refine isSt 31 ?_); (first | (refine L_store H rfl rfl 31 _ _ rfl 0 rfl rfl (cellsF (msgH a t sub) (.slice ad n c)) rfl (HZF.out) (HLF.out) (HO1.out) ?_; clear H; intro w11 HWw11 H; simp only [szA] at H) | (refine L_store H rfl rfl 31 _ _ rfl 1 rfl rfl (cellsF (msgH a t sub) (.slice ad n c)) rfl (HZF.out) (HLF.out) (HO1.out) ?_; clear H; intro w11 HWw11 H; simp only [ssA, szA] at H) | (refine L_store H rfl rfl 31 _ _ rfl 2 rfl rfl (cellsF (msgH a t sub) (.slice ad n c)) rfl (HZF.out) (HLF.out) (HO1.out) ?_; clear H; intro w11 HWw11 H; simp only [ssA, szA] at H) | (refine L_store H rfl rfl 31 _ _ rfl 3 rfl rfl (cellsF (msgH a t sub) (.slice ad n c)) rfl (HZF.out) (HLF.out) (HO1.out) ?_; clear H; intro w11 HWw11 H; simp only [ssA, szA] at H) | (refine L_store H rfl rfl 31 _ _ rfl 4 rfl rfl (cellsF (msgH a t sub) (.slice ad n c)) rfl (HZF.out) (HLF.out) (HO1.out) ?_; clear H; intro w11 HWw11 H; simp only [ssA, szA] at H) | (refine L_store H rfl rfl 31 _ _ rfl 5 rfl rfl (cellsF (msgH a t sub) (.slice ad n c)) rfl (HZF.out) (HLF.out) (HO1.out) ?_; clear H; intro w11 HWw11 H; simp only [ssA, szA] at H))))
 exact ret_row Try.results87 g10 31 (cellsF (msgH a t sub) (.slice ad n c)).toArray (0, 0) _ rfl (H.out.at 0 rfl) Try.underlying31 rfl HZF.out rfl ⟨rfl, H.out.1⟩
def ByeR (a : As) (t : By) (sub code : Int) (w : World) (e : Ending) (w' : World) : Prop := ∃ ad n c, e = .returned (.agg (cellsF (msgH a t sub) (.slice ad n c)).toArray) ∧ OwB w.heap.size w' (.slice ad n c) (two16 code) ∧ Ext w w'
set_option maxHeartbeats 1600000 in
theorem bye_any (a : As) (ha : a.own.length = 6) (v : Value) (t : By) (ht : t.length = 6) (sub : Int) (h0 : 0 ≤ sub) (h1 : sub < 256) (code : Int) (hc0 : 0 ≤ code) (hc1 : code ≤ 65535) (w : World) :
  Calls Try.prog 57 #[.agg (cellsA a v).toArray, .agg (t.map V8).toArray, .int .u8 sub, .int .u16 code] w (ByeR a t sub code w) := by
 have H := kp (Loc.start w)
 have HZT := kp (sizeA8a ht)
 have HOK := kp (msg_ok ha ht h0 h1)
 have HZA := kp (sizeAs (a := a) v ha)
 have HLF := kp (fun ad n c => show (cellsF hd0 (.slice none 0 0)).length = (cellsF (msgH a t sub) (.slice ad n c)).length by rw [len_F HOK.out]; rfl)
 have HZF := kp (fun ad n c => show (Try.prog.info? 31).map (·.size) = some (cellsF (msgH a t sub) (.slice ad n c)).toArray.size by rw [List.size_toArray, len_F HOK.out]; kernel_rfl)
 have HO1 := kp (fun ad n c => one_F (msgH a t sub) ad n c)
 have HBR := kp (show ∀ w, (Instr.build 57 #[(0, .int .u16 code)]).run Try.prog w = .ok (.agg (cat (partsRe code)).toArray) w by intro w; kernel_rfl)
 have HER := kp (fun w => encReason_any code hc0 hc1 w)
 have HMS := kp (fun ad n c e0 w => message_any a ha v t ht sub h0 h1 ad n c e0 w)
 clear ha ht h0 h1 hc0 hc1
 generalize hP : cat (partsRe code) = P at *
 have HP := kp hP
 clear hP
 go_enter Try.func57, Try.ntmps57
 go_wp2_with (first | ((with_reducible refine isBx 4 26 ?_); (with_reducible refine L_box H rfl 26 _ rfl (cellsA a v) rfl ?_); clear H; intro g4 w4 HGg4 HEg4 H; simp only [pA]) | ((with_reducible refine isBx 5 23 ?_); (with_reducible refine L_box H rfl 23 _ rfl (t.map V8) rfl ?_); clear H; intro g5 w5 HGg5 HEg5 H; simp only [pA]) | ((with_reducible refine isAl 8 31 ?_); (with_reducible refine L_alloc H rfl 31 rfl (cellsF hd0 (.slice none 0 0)) (fun _ _ => by kernel_rfl) ?_); clear H; intro g8 w8 HGg8 HEg8 H; simp only [pA]) | ((with_reducible refine isLd 23 ?_); (refine wpList_load_rowG (by kernel_rfl) 23 _ rfl (g5) rfl 23 (t.map V8).toArray (0, 0) _ (H.out.at 1 rfl) Try.underlying23 rfl (HZT.out) ?_); simp only [pA]) | ((with_reducible refine isLd 26 ?_); (refine wpList_load_rowG (by kernel_rfl) 26 _ rfl (g4) rfl 26 (cellsA a v).toArray (0, 0) _ (H.out.at 2 rfl) Try.underlying26 rfl (HZA.out) ?_); simp only [pA]) | (go_at_call 73; refine (HER.out _).mono ?_; rintro e wa ⟨v2, rfl, ho, hx⟩; obtain ⟨ad, n, c, rfl⟩ := owns_form2 ho; have HO := kp ho; clear ho; replace H := kp (H.out.ext hx); have HXC := kp hx; clear hx) | (go_at_call 87; refine (HMS.out _ _ _ _ _).mono ?_; rintro e wa ⟨rfl, hx⟩; replace H := kp (H.out.ext hx); have HXC := kp hx; clear hx) | ((with_reducible show wpList _ _ _ (Oper.mk (some 13) (Op.build 57 _) _ _ _ _ :: _) _ _); (refine L_bd (by kernel_rfl) 57 _ rfl (#[(0, .int .u16 code)]) (by kernel_rfl) (P) (HBR.out) ?_); simp only [pA]) | (have HGG := kp (H.out.at 0 rfl); ((with_reducible refine isSt 31 ?_); (first | (refine L_store H rfl rfl 31 _ _ rfl 0 rfl rfl (cellsF (msgH a t sub) (.slice ad n c)) rfl (HZF.out _ _ _) (HLF.out _ _ _) (HO1.out _ _ _) ?_; clear H; intro w22 HWw22 H; simp only [szA] at H) | (refine L_store H rfl rfl 31 _ _ rfl 1 rfl rfl (cellsF (msgH a t sub) (.slice ad n c)) rfl (HZF.out _ _ _) (HLF.out _ _ _) (HO1.out _ _ _) ?_; clear H; intro w22 HWw22 H; simp only [ssA, szA] at H) | (refine L_store H rfl rfl 31 _ _ rfl 2 rfl rfl (cellsF (msgH a t sub) (.slice ad n c)) rfl (HZF.out _ _ _) (HLF.out _ _ _) (HO1.out _ _ _) ?_; clear H; intro w22 HWw22 H; simp only [ssA, szA] at H) | (refine L_store H rfl rfl 31 _ _ rfl 3 rfl rfl (cellsF (msgH a t sub) (.slice ad n c)) rfl (HZF.out _ _ _) (HLF.out _ _ _) (HO1.out _ _ _) ?_; clear H; intro w22 HWw22 H; simp only [ssA, szA] at H) | (refine L_store H rfl rfl 31 _ _ rfl 4 rfl rfl (cellsF (msgH a t sub) (.slice ad n c)) rfl (HZF.out _ _ _) (HLF.out _ _ _) (HO1.out _ _ _) ?_; clear H; intro w22 HWw22 H; simp only [ssA, szA] at H) | (refine L_store H rfl rfl 31 _ _ rfl 5 rfl rfl (cellsF (msgH a t sub) (.slice ad n c)) rfl (HZF.out _ _ _) (HLF.out _ _ _) (HO1.out _ _ _) ?_; clear H; intro w22 HWw22 H; simp only [ssA, szA] at H)))))
 have HO2 := owns_wroteT (owns_ext HO.out HXC.out) HWw22.out HGG.out (show 5 ≠ 31 from by decide)
 exact ret_row Try.results57 g8 31 (cellsF (msgH a t sub) (.slice ad n c)).toArray (0, 0) _ rfl (H.out.at 0 rfl) Try.underlying31 rfl (HZF.out _ _ _) rfl ⟨ad, n, c, rfl, owns_weak HO2 ((HEg4.out.trans HEg5.out).trans HEg8.out).size, H.out.1⟩
end Go.Proofs.Ytfecopfofkdnpaa
