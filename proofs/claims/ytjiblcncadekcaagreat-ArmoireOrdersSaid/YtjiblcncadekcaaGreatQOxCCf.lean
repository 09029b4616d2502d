import Derived.Test.YtjiblcncadekcaaGreatQOxCRl
import Derived.Test.YtjiblcncadekcaaGreatQOxCEv
import Derived.Test.YtjiblcncadekcaaGreatQOxPAx12
import Derived.Test.YtjiblcncadekcaaGreatQOxPAx13
import Derived.Test.YtjiblcncadekcaaGreatQOxPAx9
namespace Go.Proofs.YtjiblcncadekcaaGreat.PA
set_option linter.unusedSimpArgs false
set_option linter.unusedVariables false
open Go.RowKit Go.Proofs.YtjiblcncadekcaaGreatW.PrintWords Go.Proofs.YtjiblcncadekcaaGreatW.PrintLast Go.Proofs.YtjiblcncadekcaaGreatW.PrintMore Go.Proofs.YtjiblcncadekcaaGreat Go.Proofs.YtjiblcncadekcaaGreat.PL
attribute [local go_sem] Oper.semAt_some
def fnV (kd : Int) : Value := if kd = 1 then .func (.func 78) #[] #[] else if kd = 2 then .func (.func 79) #[] #[] else if kd = 3 then .func (.func 80) #[] #[] else if kd = 4 then .func (.func 81) #[] #[] else if kd = 5 then .func (.func 81) #[] #[] else if kd = 6 then .func (.func 82) #[] #[] else if kd = 7 then .func (.func 83) #[] #[] else .nilFunc
theorem kindR_7 (op : Int) : kindR op = 0 ∨ kindR op = 1 ∨ kindR op = 2 ∨ kindR op = 3 ∨ kindR op = 4 ∨ kindR op = 5 ∨ kindR op = 6 ∨ kindR op = 7 := by
  by_cases q : op < 1 ∨ 17 < op
  · exact .inl (if_pos q)
  · have h : op = 1 ∨ op = 2 ∨ op = 3 ∨ op = 4 ∨ op = 5 ∨ op = 6 ∨ op = 7 ∨ op = 8 ∨ op = 9 ∨ op = 10 ∨ op = 11 ∨ op = 12 ∨ op = 13 ∨ op = 14 ∨ op = 15 ∨ op = 16 ∨ op = 17 := by omega
    rcases h with rfl | rfl | rfl | rfl | rfl | rfl | rfl | rfl | rfl | rfl | rfl | rfl | rfl | rfl | rfl | rfl | rfl <;> decide
theorem zero_rule (w : World) : (zeroValue 145).run Tryz.prog w = .ok .nilFunc w := by
  obtain ⟨i0, hi, hz0, hz1, hz2⟩ := info_parts (show (Tryz.prog.info? 145).map (fun i => (i.zero, i.size, i.bytes)) = some (some .nilFunc, 1, 8) by kernel_rfl)
  simp [zeroValue, typeInfo, Sem.run, hi, hz0, Result.andThen]
theorem neq_nil (w : World) : (binOp BinOp.neq 145 Value.nilFunc Value.nilFunc).run Tryz.prog w = .ok (.bool false) w := by
  have h := Tryz.underlying145
  have e : ∀ n, (Op.equalIn (n + 1) 145 Value.nilFunc Value.nilFunc).run Tryz.prog w = .ok true w := fun n => by
    unfold Op.equalIn
    simp [run_underlying h, Result.andThen]
  have e2 := e (Op.maxDepth - 1)
  rw [show Op.maxDepth - 1 + 1 = Op.maxDepth by decide] at e2
  simp [binOp, Op.equal, Result.andThen, e2]
theorem neq_fn (F : Nat) (w : World) : (binOp BinOp.neq 145 (.func (.func F) #[] #[]) Value.nilFunc).run Tryz.prog w = .ok (.bool true) w := by
  have h := Tryz.underlying145
  have e : ∀ n, (Op.equalIn (n + 1) 145 (.func (.func F) #[] #[]) Value.nilFunc).run Tryz.prog w = .ok false w := fun n => by
    unfold Op.equalIn
    simp [run_underlying h, Result.andThen]
  have e2 := e (Op.maxDepth - 1)
  rw [show Op.maxDepth - 1 + 1 = Op.maxDepth by decide] at e2
  simp [binOp, Op.equal, Result.andThen, e2]
attribute [local go_sem] neq_nil neq_fn
theorem goesv_ {P : Program} {ops : Array Oper} {Q : Exit → Act → World → Prop} {oi : Oper} {N : Option Tmp} {a : Act} {w : World} {K : Act → World → Prop} {f : FuncId} {fz : Func} {c : Operand} {aa : Array Operand} {ts : Array TypeId} (hf : P.funcs[f]? = some fz) (hname : (fz.name == "runtime.NumGoroutine") = false) (hb : fz.body.isSome = true) (args : Array Value)
    (hw : Region.wanted oi (yielded ops a.tmps) = true) (hN : oi.dst = N) (hop : oi.op = .call { callee := .value c, args := aa, argTypes := ts }) (hcal : a.eval c = .func (.func f) #[] #[]) (hargs : aa.map a.eval = args)
    (h : Calls P f args w fun e w' => ∃ v, e = .returned v ∧ K (a.put N v) w') : if Region.wanted oi (yielded ops a.tmps) = true then Oper.wp P oi a w K Q else K (a.put N undef) w := by
  refine call_ f args hw hN ?_ h
  have he := enters_ hf hname hb args w
  unfold execOp
  simp [hop, resolve, Deferred.ofValue, invoke, hcal, hargs, he]
structure RuleOf (kd : Int) (F : Nat) (fz : Func) : Prop where
  fv : fnV kd = .func (.func F) #[] #[]
  fn : Tryz.prog.funcs[F]? = some fz
  nm : (fz.name == "runtime.NumGoroutine") = false
  bd : fz.body.isSome = true
  calls : ∀ (xop : Int) (xa xb : ByteArray) (xn xcode : Int) (xtext : ByteArray) (xrn : Int) (yop : Int) (ya yb : ByteArray) (yn ycode : Int) (ytext : ByteArray) (yrn : Int) (w : World), Calls Tryz.prog F #[.agg #[.int .i64 xop, .string xa, .string xb, .int .i64 xn, .int .i64 xcode, .string xtext, .int .i64 xrn], .agg #[.int .i64 yop, .string ya, .string yb, .int .i64 yn, .int .i64 ycode, .string ytext, .int .i64 yrn]] w fun e w' => e = .returned (.bool (ruleR kd ⟨xop, xa, xb, xn, xcode, xtext, xrn⟩ ⟨yop, ya, yb, yn, ycode, ytext, yrn⟩)) ∧ Below w.heap.size w w'
theorem ruleOf (kd : Int) (h : kd = 1 ∨ kd = 2 ∨ kd = 3 ∨ kd = 4 ∨ kd = 5 ∨ kd = 6 ∨ kd = 7) : ∃ F fz, RuleOf kd F fz := by
  rcases h with rfl | rfl | rfl | rfl | rfl | rfl | rfl
  · exact ⟨_, _, rfl, Tryz.func78, by kernel_rfl, rfl, fun xop xa xb xn xcode xtext xrn yop ya yb yn ycode ytext yrn w => commute_register.calls _ _ _ _ _ _ _ _ _ _ _ _ _ _ _ w (reg_f _ _ _ _ _ _ _ _ _ _ _ _ _ _)⟩
  · exact ⟨_, _, rfl, Tryz.func79, by kernel_rfl, rfl, fun xop xa xb xn xcode xtext xrn yop ya yb yn ycode ytext yrn w => commute_counter.calls _ _ _ _ _ _ _ _ _ _ _ _ _ _ _ w (cnt_f _ _ _ _ _ _ _ _ _ _ _ _ _ _)⟩
  · exact ⟨_, _, rfl, Tryz.func80, by kernel_rfl, rfl, commAccount.calls⟩
  · exact ⟨_, _, rfl, Tryz.func81, by kernel_rfl, rfl, fun xop xa xb xn xcode xtext xrn yop ya yb yn ycode ytext yrn w => commute_member.calls 5 _ _ _ _ _ _ _ _ _ _ _ _ _ _ _ w (mem_f _ _ _ _ _ _ _ _ _ _ _ _ _ _ 4 (.inl rfl))⟩
  · exact ⟨_, _, rfl, Tryz.func81, by kernel_rfl, rfl, fun xop xa xb xn xcode xtext xrn yop ya yb yn ycode ytext yrn w => commute_member.calls 5 _ _ _ _ _ _ _ _ _ _ _ _ _ _ _ w (mem_f _ _ _ _ _ _ _ _ _ _ _ _ _ _ 5 (.inr rfl))⟩
  · exact ⟨_, _, rfl, Tryz.func82, by kernel_rfl, rfl, fun xop xa xb xn xcode xtext xrn yop ya yb yn ycode ytext yrn w => commute_queue.calls _ _ _ _ _ _ _ _ _ _ _ _ _ _ _ w (que_f _ _ _ _ _ _ _ _ _ _ _ _ _ _)⟩
  · exact ⟨_, _, rfl, Tryz.func83, by kernel_rfl, rfl, fun xop xa xb xn xcode xtext xrn yop ya yb yn ycode ytext yrn w => commute_semi.calls _ _ _ _ _ _ _ _ _ _ _ _ _ _ _ w (sem_f _ _ _ _ _ _ _ _ _ _ _ _ _ _)⟩
theorem box7 {W : World} {g t : Nat} {cs : Array Value} (hc : cs.size = 7) (hb : W.heap[g]? = some (.cells cs t (0, 0))) (a b c d e f h : Value) :
    (((((((W.setCell ⟨g, 0, none⟩ a).setCell ⟨g, 1, none⟩ b).setCell ⟨g, 2, none⟩ c).setCell ⟨g, 3, none⟩ d).setCell ⟨g, 4, none⟩ e).setCell ⟨g, 5, none⟩ f).setCell ⟨g, 6, none⟩ h).heap[g]? = some (.cells #[a, b, c, d, e, f, h] t (0, 0)) := by
  obtain ⟨l⟩ := cs
  obtain ⟨v0, v1, v2, v3, v4, v5, v6, rfl⟩ : ∃ v0 v1 v2 v3 v4 v5 v6, l = [v0, v1, v2, v3, v4, v5, v6] := by
    match l, hc with
    | [v0, v1, v2, v3, v4, v5, v6], _ => exact ⟨_, _, _, _, _, _, _, rfl⟩
  have e0 := kpt hb 0 a (cs' := #[a, v1, v2, v3, v4, v5, v6]) rfl
  have e1 := kpt e0 1 b (cs' := #[a, b, v2, v3, v4, v5, v6]) rfl
  have e2 := kpt e1 2 c (cs' := #[a, b, c, v3, v4, v5, v6]) rfl
  have e3 := kpt e2 3 d (cs' := #[a, b, c, d, v4, v5, v6]) rfl
  have e4 := kpt e3 4 e (cs' := #[a, b, c, d, e, v5, v6]) rfl
  have e5 := kpt e4 5 f (cs' := #[a, b, c, d, e, f, v6]) rfl
  exact kpt e5 6 h (cs' := #[a, b, c, d, e, f, h]) rfl
theorem far7 {W : World} {g k t : Nat} {cs : Array Value} (hb : W.heap[k]? = some (.cells cs t (0, 0))) (hne : k ≠ g) (a b c d e f h : Value) :
    (((((((W.setCell ⟨g, 0, none⟩ a).setCell ⟨g, 1, none⟩ b).setCell ⟨g, 2, none⟩ c).setCell ⟨g, 3, none⟩ d).setCell ⟨g, 4, none⟩ e).setCell ⟨g, 5, none⟩ f).setCell ⟨g, 6, none⟩ h).heap[k]? = some (.cells cs t (0, 0)) :=
  blk_far (blk_far (blk_far (blk_far (blk_far (blk_far (blk_far hb hne a) hne b) hne c) hne d) hne e) hne f) hne h
theorem bel7 {w W : World} {g : Nat} (hB : Below w.heap.size w W) (hg : w.heap.size ≤ g) (a b c d e f h : Value) :
    Below w.heap.size w (((((((W.setCell ⟨g, 0, none⟩ a).setCell ⟨g, 1, none⟩ b).setCell ⟨g, 2, none⟩ c).setCell ⟨g, 3, none⟩ d).setCell ⟨g, 4, none⟩ e).setCell ⟨g, 5, none⟩ f).setCell ⟨g, 6, none⟩ h) :=
  bst (bst (bst (bst (bst (bst (bst hB hg) hg) hg) hg) hg) hg) hg
theorem map_below {w w' : World} {b : Nat} {es : Array MapEntry} {c : Nat} (h : w.heap[b]? = some (.map es c)) (hB : Below w.heap.size w w') : w'.heap[b]? = some (.map es c) :=
  (hB.block b (Array.getElem?_eq_some_iff.1 h).1).trans h
theorem look_rules {w : World} {b : Nat} (h : w.heap[b]? = some (.map rulesM 7)) (op : Int) : (Instr.lookup 146 (.map (some b)) (.int .i64 (kindR op)) false).run Tryz.prog w = .ok (fnV (kindR op)) w := by
  have hT := Tryz.underlying146
  have hK := Tryz.underlying3
  rcases kindR_7 op with q | q | q | q | q | q | q | q
  · rw [q]; exact map_none hT hK (show Go.MapKept.IsKey (.int .i64) (.int .i64 0) from rfl) h rfl (zero_rule w)
  all_goals (rw [q]; exact map_look hT hK (show Go.MapKept.IsKey (.int .i64) (.int .i64 _) from rfl) h rfl)
set_option maxHeartbeats 8000000 in
set_option maxRecDepth 100000 in
theorem commConflict.calls (xop : Int) (xa xb : ByteArray) (xn xcode : Int) (xtext : ByteArray) (xrn : Int) (yop : Int) (ya yb : ByteArray) (yn ycode : Int) (ytext : ByteArray) (yrn : Int) (w : World) : Calls Tryz.prog 55 #[.agg #[.int .i64 xop, .string xa, .string xb, .int .i64 xn, .int .i64 xcode, .string xtext, .int .i64 xrn], .agg #[.int .i64 yop, .string ya, .string yb, .int .i64 yn, .int .i64 ycode, .string ytext, .int .i64 yrn]] w fun e w' => e = .returned (.bool (conflictR ⟨xop, xa, xb, xn, xcode, xtext, xrn⟩ ⟨yop, ya, yb, yn, ycode, ytext, yrn⟩)) ∧ Below w.heap.size w w' := by
  have hu53 := Tryz.underlying53
  have HB := Z0.mk (Below.refl w.heap.size w)
  obtain ⟨qb, qd⟩ : ∃ qb, decide (xop > yop) = qb := ⟨_, rfl⟩
  have HQD := Z0.mk qd
  go_enter Tryz.func55, Tryz.ntmps55
  go_upto_if 12 with (first | ((with_reducible refine gds (N := 2) rfl ?_); refine bx_ (N := 2) (cs := #[.int .i64 xop, .string xa, .string xb, .int .i64 xn, .int .i64 xcode, .string xtext, .int .i64 xrn]) (t := 53) ?_; intro g1 hg w1 hbox hb; have n_ := Z0.mk (bsp HB.out hb); have HG1 := Z0.mk (show w.heap.size ≤ g1 by have := bsz HB.out; omega); clear HB; have HB := n_; clear n_; have BK1 := Z0.mk hbox; clear hb hbox hg) | ((with_reducible refine gds (N := 3) rfl ?_); refine bx_ (N := 3) (cs := #[.int .i64 yop, .string ya, .string yb, .int .i64 yn, .int .i64 ycode, .string ytext, .int .i64 yrn]) (t := 53) ?_; intro g2 hg w2 hbox hb; have n_ := Z0.mk (bsp HB.out hb); have HNE := Z0.mk (show g1 ≠ g2 by have := klt_ BK1.out; omega); have HG2 := Z0.mk (show w.heap.size ≤ g2 by have := bsz HB.out; omega); have m_ := Z0.mk (kbl BK1.out hb); clear BK1; have BK1 := m_; clear m_; clear HB; have HB := n_; clear n_; have BK2 := Z0.mk hbox; clear hb hbox hg; have hc1 := bc7 BK1.out; have hc2 := bc7 BK2.out))
  clear qd
  go_cut [12] (fun v12 wc => ∃ X Y : Stp, Z0 (Below w.heap.size w wc) ∧ Z0 (wc.heap[g1]? = some (.cells #[.int .i64 X.op, .string X.a, .string X.b, .int .i64 X.n, .int .i64 X.code, .string X.text, .int .i64 X.rn] 53 (0, 0))) ∧ Z0 (wc.heap[g2]? = some (.cells #[.int .i64 Y.op, .string Y.a, .string Y.b, .int .i64 Y.n, .int .i64 Y.code, .string Y.text, .int .i64 Y.rn] 53 (0, 0))) ∧ Z0 (confR X Y = conflictR ⟨xop, xa, xb, xn, xcode, xtext, xrn⟩ ⟨yop, ya, yb, yn, ycode, ytext, yrn⟩))
  case first =>
    cases qb
    rotate_left
    · have HQ := Z0.mk (Eq.symm (show conflictR ⟨xop, xa, xb, xn, xcode, xtext, xrn⟩ ⟨yop, ya, yb, yn, ycode, ytext, yrn⟩ = confR ⟨yop, ya, yb, yn, ycode, ytext, yrn⟩ ⟨xop, xa, xb, xn, xcode, xtext, xrn⟩ from if_pos (of_decide_eq_true HQD.out)))
      have hne1 := HNE.out
      have hne2 : g2 ≠ g1 := fun e => hne1 e.symm
      have n1_ := Z0.mk (bel7 (bel7 HB.out HG1.out (.int .i64 yop) (.string ya) (.string yb) (.int .i64 yn) (.int .i64 ycode) (.string ytext) (.int .i64 yrn)) HG2.out (.int .i64 xop) (.string xa) (.string xb) (.int .i64 xn) (.int .i64 xcode) (.string xtext) (.int .i64 xrn))
      have n2_ := Z0.mk (far7 (box7 rfl BK1.out (.int .i64 yop) (.string ya) (.string yb) (.int .i64 yn) (.int .i64 ycode) (.string ytext) (.int .i64 yrn)) hne1 (.int .i64 xop) (.string xa) (.string xb) (.int .i64 xn) (.int .i64 xcode) (.string xtext) (.int .i64 xrn))
      have n3_ := Z0.mk (box7 rfl (far7 BK2.out hne2 (.int .i64 yop) (.string ya) (.string yb) (.int .i64 yn) (.int .i64 ycode) (.string ytext) (.int .i64 yrn)) (.int .i64 xop) (.string xa) (.string xb) (.int .i64 xn) (.int .i64 xcode) (.string xtext) (.int .i64 xrn))
      clear HQD
      go_wp2
      generalize ((((((((((((((w2.setCell ⟨g1, 0, none⟩ (.int .i64 yop)).setCell ⟨g1, 1, none⟩ (.string ya)).setCell ⟨g1, 2, none⟩ (.string yb)).setCell ⟨g1, 3, none⟩ (.int .i64 yn)).setCell ⟨g1, 4, none⟩ (.int .i64 ycode)).setCell ⟨g1, 5, none⟩ (.string ytext)).setCell ⟨g1, 6, none⟩ (.int .i64 yrn)).setCell ⟨g2, 0, none⟩ (.int .i64 xop)).setCell ⟨g2, 1, none⟩ (.string xa)).setCell ⟨g2, 2, none⟩ (.string xb)).setCell ⟨g2, 3, none⟩ (.int .i64 xn)).setCell ⟨g2, 4, none⟩ (.int .i64 xcode)).setCell ⟨g2, 5, none⟩ (.string xtext)).setCell ⟨g2, 6, none⟩ (.int .i64 xrn)) = w12 at n1_ n2_ n3_ ⊢
      go_meet
      exact ⟨⟨yop, ya, yb, yn, ycode, ytext, yrn⟩, ⟨xop, xa, xb, xn, xcode, xtext, xrn⟩, n1_, n2_, n3_, HQ⟩
    · have HQ := Z0.mk (Eq.symm (show conflictR ⟨xop, xa, xb, xn, xcode, xtext, xrn⟩ ⟨yop, ya, yb, yn, ycode, ytext, yrn⟩ = confR ⟨xop, xa, xb, xn, xcode, xtext, xrn⟩ ⟨yop, ya, yb, yn, ycode, ytext, yrn⟩ from if_neg (of_decide_eq_false HQD.out)))
      clear HQD
      go_wp2
      go_meet
      exact ⟨⟨xop, xa, xb, xn, xcode, xtext, xrn⟩, ⟨yop, ya, yb, yn, ycode, ytext, yrn⟩, HB, BK1, BK2, HQ⟩
  case rest =>
    obtain ⟨⟨vop, va, vb, vn, vcode, vtext, vrn⟩, ⟨uop, ua, ub, un, ucode, utext, urn⟩, n1_, n2_, n3_, HEQ⟩ := hcut
    dsimp only at n2_ n3_ HEQ
    have hwd : Below w.heap.size w wc := n1_.out
    clear HB BK1 BK2 hc1 hc2
    have HB := Z0.mk (bd1 n1_.out)
    have BK1 := Z0.mk (kdw n2_.out)
    have BK2 := Z0.mk (kdw n3_.out)
    clear n1_ n2_ n3_ hwd
    obtain ⟨fv, hfv⟩ : ∃ fv, fv = fnV (kindR vop) := ⟨_, rfl⟩
    have HFV := Z0.mk hfv
    clear hfv
    go_upto_region 3 with fail
    refine start_ (n := 7) (S := fun w' => w'.cell? ⟨g1, 0, none⟩ = some (.int .i64 vop)) (ds := []) #[false,false,false,false,false,false,false] (by kernel_rfl) rfl rfl ((kcl BK1.out 0).trans rfl) (fun hHeld => ?_)
    generalize wc.drew = w3 at HB BK1 BK2 hHeld ⊢
    refine pu_ 1 (some 16) (bA 7 2) ?_
    refine pu_ 2 (some 17) (bA 7 6) ?_
    refine tk_ 3 (some 18) (bA 7 14) hHeld ?_
    refine one_ (i := 0) (N := some 15) (bA 7 15) rfl rfl (by kernel_rfl) (by decide) (fun K hK => ?_)
    refine goes_ Tryz.func71 (by kernel_rfl) rfl #[] (by rfl) rfl rfl (by (try simp only [List.map_toArray, List.map_cons, List.map_nil]); first | done | rfl | (simp only [Act.eval, Array.getD_eq_getD_getElem?, Option.getD_some, *]; done)) ?_
    with_reducible refine (commRules.calls _).mono ?_
    rintro e w4 ⟨mb, rfl, hM4, hB4⟩
    refine ⟨_, rfl, ?_⟩
    have HM4 := Z0.mk hM4
    have n1_ := Z0.mk (bsp HB.out hB4)
    have n2_ := Z0.mk (kbl BK1.out hB4)
    have n3_ := Z0.mk (kbl BK2.out hB4)
    clear HB BK1 BK2 hM4 hB4
    have HB := n1_
    have BK1 := n2_
    have BK2 := n3_
    clear n1_ n2_ n3_
    refine hK.out _ _ ((kcl BK1.out 0).trans rfl) (fun hHeld => ?_)
    clear hK K
    refine nm_ (some 15) ?_
    refine one_ (i := 4) (N := some 19) (bA 7 31) rfl rfl (by kernel_rfl) (by decide) (fun K hK => ?_)
    refine goes_ Tryz.func24 (by kernel_rfl) rfl #[.int .i64 vop] (by rfl) rfl rfl (by (try simp only [List.map_toArray, List.map_cons, List.map_nil]); first | done | rfl | (simp only [Act.eval, Array.getD_eq_getD_getElem?, Option.getD_some, *]; done)) ?_
    with_reducible refine (method_Op_Kind.calls vop (kindR vop) _ (kind_f vop)).mono ?_
    rintro e w5 ⟨rfl, hB5⟩
    refine ⟨_, rfl, ?_⟩
    have HM5 := Z0.mk (map_below HM4.out hB5)
    have n1_ := Z0.mk (bsp HB.out hB5)
    have n2_ := Z0.mk (kbl BK1.out hB5)
    have n3_ := Z0.mk (kbl BK2.out hB5)
    clear HB BK1 BK2 HM4 hB5
    have HB := n1_
    have BK1 := n2_
    have BK2 := n3_
    clear n1_ n2_ n3_
    have hlk := look_rules HM5.out vop
    rw [← HFV.out] at hlk
    refine hK.out _ _ ((kcl BK1.out 0).trans rfl) (fun hHeld => ?_)
    clear hK K
    refine nm_ (some 19) ?_
    refine one_ (i := 5) (N := some 20) (bA 7 63) rfl rfl (by kernel_rfl) (by decide) (fun K hK => ?_)
    refine value_ (w1 := ?_) (v := ?_) (by rfl) rfl ?_ ?_
    rotate_left 2
    · go_simp
      constructor
      · rfl
      · rfl
    refine hK.out _ _ ((kcl BK1.out 0).trans rfl) (fun hHeld => ?_)
    clear hK K
    refine nm_ (some 20) ?_
    refine pu_ 6 (some 5) (bA 7 127) ?_
    refine done_ (by kernel_rfl) ?_
    clear hHeld HM5 hlk
    have n1_ := Z0.mk (bd1 HB.out)
    have n2_ := Z0.mk (kdw BK1.out)
    have n3_ := Z0.mk (kdw BK2.out)
    clear HB BK1 BK2
    have HB := n1_
    have BK1 := n2_
    have BK2 := n3_
    clear n1_ n2_ n3_
    have hfv := HFV.out
    by_cases q0 : kindR vop = 0
    · have HC := Z0.mk (show confR ⟨vop, va, vb, vn, vcode, vtext, vrn⟩ ⟨uop, ua, ub, un, ucode, utext, urn⟩ = false by unfold confR; dsimp only; rw [q0]; rfl)
      rw [q0] at hfv
      obtain rfl : fv = .nilFunc := hfv
      clear HFV q0
      go_upto_region 4 with fail
      refine start_ (n := 28) (S := fun w' => w'.cell? ⟨g1, 0, none⟩ = some (.int .i64 vop) ∧ w'.cell? ⟨g1, 1, none⟩ = some (.string va) ∧ w'.cell? ⟨g1, 2, none⟩ = some (.string vb) ∧ w'.cell? ⟨g1, 3, none⟩ = some (.int .i64 vn) ∧ w'.cell? ⟨g1, 4, none⟩ = some (.int .i64 vcode) ∧ w'.cell? ⟨g1, 5, none⟩ = some (.string vtext) ∧ w'.cell? ⟨g1, 6, none⟩ = some (.int .i64 vrn) ∧ w'.cell? ⟨g2, 0, none⟩ = some (.int .i64 uop) ∧ w'.cell? ⟨g2, 1, none⟩ = some (.string ua) ∧ w'.cell? ⟨g2, 2, none⟩ = some (.string ub) ∧ w'.cell? ⟨g2, 3, none⟩ = some (.int .i64 un) ∧ w'.cell? ⟨g2, 4, none⟩ = some (.int .i64 ucode) ∧ w'.cell? ⟨g2, 5, none⟩ = some (.string utext) ∧ w'.cell? ⟨g2, 6, none⟩ = some (.int .i64 urn)) (ds := []) #[false,false,false,false,false,false,false,false,false,false,false,false,false,false,false,false,false,false,false,false,false,false,false,false,false,false,false,false] (by kernel_rfl) rfl rfl ⟨(kcl BK1.out 0).trans rfl, (kcl BK1.out 1).trans rfl, (kcl BK1.out 2).trans rfl, (kcl BK1.out 3).trans rfl, (kcl BK1.out 4).trans rfl, (kcl BK1.out 5).trans rfl, (kcl BK1.out 6).trans rfl, (kcl BK2.out 0).trans rfl, (kcl BK2.out 1).trans rfl, (kcl BK2.out 2).trans rfl, (kcl BK2.out 3).trans rfl, (kcl BK2.out 4).trans rfl, (kcl BK2.out 5).trans rfl, (kcl BK2.out 6).trans rfl⟩ (fun hHeld => ?_)
      generalize w5.drew = w6 at HB BK1 BK2 hHeld ⊢
      refine pu_ 0 (some 21) (bA 28 1) ?_
      refine pu_ 1 (some 22) (bA 28 3) ?_
      refine pu_ 2 (some 23) (bA 28 7) ?_
      refine pn_ 3 (some 24) (bA 28 15) ?_
      refine pn_ 4 (some 25) (bA 28 31) ?_
      refine pn_ 5 (some 26) (bA 28 63) ?_
      refine pn_ 6 (some 27) (bA 28 127) ?_
      refine pn_ 7 (some 28) (bA 28 255) ?_
      refine pn_ 8 (some 29) (bA 28 511) ?_
      refine pn_ 9 (some 30) (bA 28 1023) ?_
      refine pn_ 10 (some 31) (bA 28 2047) ?_
      refine pn_ 11 (some 32) (bA 28 4095) ?_
      refine pu_ 12 (some 33) (bA 28 8191) ?_
      refine pu_ 13 (some 34) (bA 28 16383) ?_
      refine pn_ 14 (some 35) (bA 28 32767) ?_
      refine pn_ 15 (some 36) (bA 28 65535) ?_
      refine pu_ 16 (some 37) (bA 28 131071) ?_
      refine pu_ 17 (some 38) (bA 28 262143) ?_
      refine pn_ 18 (some 39) (bA 28 524287) ?_
      refine pn_ 19 (some 40) (bA 28 1048575) ?_
      refine pu_ 20 (some 41) (bA 28 2097151) ?_
      refine pu_ 21 (some 42) (bA 28 4194303) ?_
      refine pn_ 22 (some 43) (bA 28 8388607) ?_
      refine pn_ 23 (some 44) (bA 28 16777215) ?_
      refine pn_ 24 (some 45) (bA 28 33554431) ?_
      refine pn_ 25 (some 46) (bA 28 67108863) ?_
      refine pu_ 26 (some 47) (bA 28 134217727) ?_
      refine pu_ 27 (some 4) (bA 28 268435455) ?_
      refine done_ (by kernel_rfl) ?_
      go_wp2
      go_ret
      exact ⟨by rw [← HEQ.out, HC.out]; rfl, HB.out⟩
    obtain ⟨F, fz, hru⟩ := ruleOf (kindR vop) (by have := kindR_7 vop; omega)
    have HRU := Z0.mk hru
    rw [hru.fv] at hfv
    subst hfv
    clear hru HFV
    have HK0 := Z0.mk (show (kindR vop != 0) = true from bne_iff_ne.2 q0)
    clear q0
    have HCF := Z0.mk (show confR ⟨vop, va, vb, vn, vcode, vtext, vrn⟩ ⟨uop, ua, ub, un, ucode, utext, urn⟩ = (kindR vop != 0 && (kindR vop == kindR uop && (possR ⟨vop, va, vb, vn, vcode, vtext, vrn⟩ && (possR ⟨uop, ua, ub, un, ucode, utext, urn⟩ && ruleR (kindR vop) ⟨vop, va, vb, vn, vcode, vtext, vrn⟩ ⟨uop, ua, ub, un, ucode, utext, urn⟩)))) from rfl)
    cases hq1 : (kindR vop == kindR uop) with
    | false =>
      have HQ1 := Z0.mk hq1
      go_upto_region 4 with fail
      refine start_ (n := 28) (S := fun w' => w'.cell? ⟨g1, 0, none⟩ = some (.int .i64 vop) ∧ w'.cell? ⟨g1, 1, none⟩ = some (.string va) ∧ w'.cell? ⟨g1, 2, none⟩ = some (.string vb) ∧ w'.cell? ⟨g1, 3, none⟩ = some (.int .i64 vn) ∧ w'.cell? ⟨g1, 4, none⟩ = some (.int .i64 vcode) ∧ w'.cell? ⟨g1, 5, none⟩ = some (.string vtext) ∧ w'.cell? ⟨g1, 6, none⟩ = some (.int .i64 vrn) ∧ w'.cell? ⟨g2, 0, none⟩ = some (.int .i64 uop) ∧ w'.cell? ⟨g2, 1, none⟩ = some (.string ua) ∧ w'.cell? ⟨g2, 2, none⟩ = some (.string ub) ∧ w'.cell? ⟨g2, 3, none⟩ = some (.int .i64 un) ∧ w'.cell? ⟨g2, 4, none⟩ = some (.int .i64 ucode) ∧ w'.cell? ⟨g2, 5, none⟩ = some (.string utext) ∧ w'.cell? ⟨g2, 6, none⟩ = some (.int .i64 urn)) (ds := []) #[false,false,false,false,false,false,false,false,false,false,false,false,false,false,false,false,false,false,false,false,false,false,false,false,false,false,false,false] (by kernel_rfl) rfl rfl ⟨(kcl BK1.out 0).trans rfl, (kcl BK1.out 1).trans rfl, (kcl BK1.out 2).trans rfl, (kcl BK1.out 3).trans rfl, (kcl BK1.out 4).trans rfl, (kcl BK1.out 5).trans rfl, (kcl BK1.out 6).trans rfl, (kcl BK2.out 0).trans rfl, (kcl BK2.out 1).trans rfl, (kcl BK2.out 2).trans rfl, (kcl BK2.out 3).trans rfl, (kcl BK2.out 4).trans rfl, (kcl BK2.out 5).trans rfl, (kcl BK2.out 6).trans rfl⟩ (fun hHeld => ?_)
      generalize w5.drew = w6 at HB BK1 BK2 hHeld ⊢
      refine pu_ 0 (some 21) (bA 28 1) ?_
      refine pu_ 1 (some 22) (bA 28 3) ?_
      refine pu_ 2 (some 23) (bA 28 7) ?_
      refine pu_ 3 (some 24) (bA 28 15) ?_
      refine pu_ 4 (some 25) (bA 28 31) ?_
      refine pu_ 7 (some 28) (bA 28 159) ?_
      refine pu_ 8 (some 29) (bA 28 415) ?_
      refine tk_ 5 (some 26) (bA 28 447) hHeld ?_
      refine tk_ 9 (some 30) (bA 28 959) hHeld ?_
      refine one_ (i := 6) (N := some 27) (bA 28 1023) rfl rfl (by kernel_rfl) (by decide) (fun K hK => ?_)
      refine goes_ Tryz.func24 (by kernel_rfl) rfl #[.int .i64 vop] (by rfl) rfl rfl (by (try simp only [List.map_toArray, List.map_cons, List.map_nil]); first | done | rfl | (simp only [Act.eval, Array.getD_eq_getD_getElem?, Option.getD_some, *]; done)) ?_
      with_reducible refine (method_Op_Kind.calls vop (kindR vop) _ (kind_f vop)).mono ?_
      rintro e w7 ⟨rfl, hB7⟩
      refine ⟨_, rfl, ?_⟩
      have n1_ := Z0.mk (bsp HB.out hB7)
      have n2_ := Z0.mk (kbl BK1.out hB7)
      have n3_ := Z0.mk (kbl BK2.out hB7)
      clear HB BK1 BK2 hB7
      have HB := n1_
      have BK1 := n2_
      have BK2 := n3_
      clear n1_ n2_ n3_
      refine hK.out _ _ ⟨(kcl BK1.out 0).trans rfl, (kcl BK1.out 1).trans rfl, (kcl BK1.out 2).trans rfl, (kcl BK1.out 3).trans rfl, (kcl BK1.out 4).trans rfl, (kcl BK1.out 5).trans rfl, (kcl BK1.out 6).trans rfl, (kcl BK2.out 0).trans rfl, (kcl BK2.out 1).trans rfl, (kcl BK2.out 2).trans rfl, (kcl BK2.out 3).trans rfl, (kcl BK2.out 4).trans rfl, (kcl BK2.out 5).trans rfl, (kcl BK2.out 6).trans rfl⟩ (fun hHeld => ?_)
      clear hK K
      refine nm_ (some 27) ?_
      refine one_ (i := 10) (N := some 31) (bA 28 2047) rfl rfl (by kernel_rfl) (by decide) (fun K hK => ?_)
      refine goes_ Tryz.func24 (by kernel_rfl) rfl #[.int .i64 uop] (by rfl) rfl rfl (by (try simp only [List.map_toArray, List.map_cons, List.map_nil]); first | done | rfl | (simp only [Act.eval, Array.getD_eq_getD_getElem?, Option.getD_some, *]; done)) ?_
      with_reducible refine (method_Op_Kind.calls uop (kindR uop) _ (kind_f uop)).mono ?_
      rintro e w8 ⟨rfl, hB8⟩
      refine ⟨_, rfl, ?_⟩
      have n1_ := Z0.mk (bsp HB.out hB8)
      have n2_ := Z0.mk (kbl BK1.out hB8)
      have n3_ := Z0.mk (kbl BK2.out hB8)
      clear HB BK1 BK2 hB8
      have HB := n1_
      have BK1 := n2_
      have BK2 := n3_
      clear n1_ n2_ n3_
      refine hK.out _ _ ⟨(kcl BK1.out 0).trans rfl, (kcl BK1.out 1).trans rfl, (kcl BK1.out 2).trans rfl, (kcl BK1.out 3).trans rfl, (kcl BK1.out 4).trans rfl, (kcl BK1.out 5).trans rfl, (kcl BK1.out 6).trans rfl, (kcl BK2.out 0).trans rfl, (kcl BK2.out 1).trans rfl, (kcl BK2.out 2).trans rfl, (kcl BK2.out 3).trans rfl, (kcl BK2.out 4).trans rfl, (kcl BK2.out 5).trans rfl, (kcl BK2.out 6).trans rfl⟩ (fun hHeld => ?_)
      clear hK K
      refine nm_ (some 31) ?_
      refine pu_ 11 (some 32) (bA 28 4095) ?_
      refine pu_ 12 (some 33) (bA 28 8191) ?_
      refine pu_ 13 (some 34) (bA 28 16383) ?_
      refine pn_ 14 (some 35) (bA 28 32767) ?_
      refine pn_ 15 (some 36) (bA 28 65535) ?_
      refine pu_ 16 (some 37) (bA 28 131071) ?_
      refine pu_ 17 (some 38) (bA 28 262143) ?_
      refine pn_ 18 (some 39) (bA 28 524287) ?_
      refine pn_ 19 (some 40) (bA 28 1048575) ?_
      refine pu_ 20 (some 41) (bA 28 2097151) ?_
      refine pu_ 21 (some 42) (bA 28 4194303) ?_
      refine pn_ 22 (some 43) (bA 28 8388607) ?_
      refine pn_ 23 (some 44) (bA 28 16777215) ?_
      refine pn_ 24 (some 45) (bA 28 33554431) ?_
      refine pn_ 25 (some 46) (bA 28 67108863) ?_
      refine pu_ 26 (some 47) (bA 28 134217727) ?_
      refine pu_ 27 (some 4) (bA 28 268435455) ?_
      refine done_ (by kernel_rfl) ?_
      go_wp2
      go_ret
      exact ⟨by rw [← HEQ.out, HCF.out, HK0.out, HQ1.out]; first | rfl | simp, HB.out⟩
    | true =>
      have HQ1 := Z0.mk hq1
      cases hq2 : possR ⟨vop, va, vb, vn, vcode, vtext, vrn⟩ with
      | false =>
        have HQ2 := Z0.mk hq2
        go_upto_region 4 with fail
        refine start_ (n := 28) (S := fun w' => w'.cell? ⟨g1, 0, none⟩ = some (.int .i64 vop) ∧ w'.cell? ⟨g1, 1, none⟩ = some (.string va) ∧ w'.cell? ⟨g1, 2, none⟩ = some (.string vb) ∧ w'.cell? ⟨g1, 3, none⟩ = some (.int .i64 vn) ∧ w'.cell? ⟨g1, 4, none⟩ = some (.int .i64 vcode) ∧ w'.cell? ⟨g1, 5, none⟩ = some (.string vtext) ∧ w'.cell? ⟨g1, 6, none⟩ = some (.int .i64 vrn) ∧ w'.cell? ⟨g2, 0, none⟩ = some (.int .i64 uop) ∧ w'.cell? ⟨g2, 1, none⟩ = some (.string ua) ∧ w'.cell? ⟨g2, 2, none⟩ = some (.string ub) ∧ w'.cell? ⟨g2, 3, none⟩ = some (.int .i64 un) ∧ w'.cell? ⟨g2, 4, none⟩ = some (.int .i64 ucode) ∧ w'.cell? ⟨g2, 5, none⟩ = some (.string utext) ∧ w'.cell? ⟨g2, 6, none⟩ = some (.int .i64 urn)) (ds := []) #[false,false,false,false,false,false,false,false,false,false,false,false,false,false,false,false,false,false,false,false,false,false,false,false,false,false,false,false] (by kernel_rfl) rfl rfl ⟨(kcl BK1.out 0).trans rfl, (kcl BK1.out 1).trans rfl, (kcl BK1.out 2).trans rfl, (kcl BK1.out 3).trans rfl, (kcl BK1.out 4).trans rfl, (kcl BK1.out 5).trans rfl, (kcl BK1.out 6).trans rfl, (kcl BK2.out 0).trans rfl, (kcl BK2.out 1).trans rfl, (kcl BK2.out 2).trans rfl, (kcl BK2.out 3).trans rfl, (kcl BK2.out 4).trans rfl, (kcl BK2.out 5).trans rfl, (kcl BK2.out 6).trans rfl⟩ (fun hHeld => ?_)
        generalize w5.drew = w6 at HB BK1 BK2 hHeld ⊢
        refine pu_ 0 (some 21) (bA 28 1) ?_
        refine pu_ 1 (some 22) (bA 28 3) ?_
        refine pu_ 2 (some 23) (bA 28 7) ?_
        refine pu_ 3 (some 24) (bA 28 15) ?_
        refine pu_ 4 (some 25) (bA 28 31) ?_
        refine pu_ 7 (some 28) (bA 28 159) ?_
        refine pu_ 8 (some 29) (bA 28 415) ?_
        refine tk_ 5 (some 26) (bA 28 447) hHeld ?_
        refine tk_ 9 (some 30) (bA 28 959) hHeld ?_
        refine one_ (i := 6) (N := some 27) (bA 28 1023) rfl rfl (by kernel_rfl) (by decide) (fun K hK => ?_)
        refine goes_ Tryz.func24 (by kernel_rfl) rfl #[.int .i64 vop] (by rfl) rfl rfl (by (try simp only [List.map_toArray, List.map_cons, List.map_nil]); first | done | rfl | (simp only [Act.eval, Array.getD_eq_getD_getElem?, Option.getD_some, *]; done)) ?_
        with_reducible refine (method_Op_Kind.calls vop (kindR vop) _ (kind_f vop)).mono ?_
        rintro e w7 ⟨rfl, hB7⟩
        refine ⟨_, rfl, ?_⟩
        have n1_ := Z0.mk (bsp HB.out hB7)
        have n2_ := Z0.mk (kbl BK1.out hB7)
        have n3_ := Z0.mk (kbl BK2.out hB7)
        clear HB BK1 BK2 hB7
        have HB := n1_
        have BK1 := n2_
        have BK2 := n3_
        clear n1_ n2_ n3_
        refine hK.out _ _ ⟨(kcl BK1.out 0).trans rfl, (kcl BK1.out 1).trans rfl, (kcl BK1.out 2).trans rfl, (kcl BK1.out 3).trans rfl, (kcl BK1.out 4).trans rfl, (kcl BK1.out 5).trans rfl, (kcl BK1.out 6).trans rfl, (kcl BK2.out 0).trans rfl, (kcl BK2.out 1).trans rfl, (kcl BK2.out 2).trans rfl, (kcl BK2.out 3).trans rfl, (kcl BK2.out 4).trans rfl, (kcl BK2.out 5).trans rfl, (kcl BK2.out 6).trans rfl⟩ (fun hHeld => ?_)
        clear hK K
        refine nm_ (some 27) ?_
        refine one_ (i := 10) (N := some 31) (bA 28 2047) rfl rfl (by kernel_rfl) (by decide) (fun K hK => ?_)
        refine goes_ Tryz.func24 (by kernel_rfl) rfl #[.int .i64 uop] (by rfl) rfl rfl (by (try simp only [List.map_toArray, List.map_cons, List.map_nil]); first | done | rfl | (simp only [Act.eval, Array.getD_eq_getD_getElem?, Option.getD_some, *]; done)) ?_
        with_reducible refine (method_Op_Kind.calls uop (kindR uop) _ (kind_f uop)).mono ?_
        rintro e w8 ⟨rfl, hB8⟩
        refine ⟨_, rfl, ?_⟩
        have n1_ := Z0.mk (bsp HB.out hB8)
        have n2_ := Z0.mk (kbl BK1.out hB8)
        have n3_ := Z0.mk (kbl BK2.out hB8)
        clear HB BK1 BK2 hB8
        have HB := n1_
        have BK1 := n2_
        have BK2 := n3_
        clear n1_ n2_ n3_
        refine hK.out _ _ ⟨(kcl BK1.out 0).trans rfl, (kcl BK1.out 1).trans rfl, (kcl BK1.out 2).trans rfl, (kcl BK1.out 3).trans rfl, (kcl BK1.out 4).trans rfl, (kcl BK1.out 5).trans rfl, (kcl BK1.out 6).trans rfl, (kcl BK2.out 0).trans rfl, (kcl BK2.out 1).trans rfl, (kcl BK2.out 2).trans rfl, (kcl BK2.out 3).trans rfl, (kcl BK2.out 4).trans rfl, (kcl BK2.out 5).trans rfl, (kcl BK2.out 6).trans rfl⟩ (fun hHeld => ?_)
        clear hK K
        refine nm_ (some 31) ?_
        refine pu_ 11 (some 32) (bA 28 4095) ?_
        refine pu_ 12 (some 33) (bA 28 8191) ?_
        refine pu_ 13 (some 34) (bA 28 16383) ?_
        refine tk_ 14 (some 35) (bA 28 32767) hHeld ?_
        refine one_ (i := 15) (N := some 36) (bA 28 65535) rfl rfl (by kernel_rfl) (by decide) (fun K hK => ?_)
        refine goes_ Tryz.func72 (by kernel_rfl) rfl #[.agg #[.int .i64 vop, .string va, .string vb, .int .i64 vn, .int .i64 vcode, .string vtext, .int .i64 vrn]] (by rfl) rfl rfl (by (try simp only [List.map_toArray, List.map_cons, List.map_nil]); first | done | rfl | (simp only [Act.eval, Array.getD_eq_getD_getElem?, Option.getD_some, *]; done)) ?_
        with_reducible refine (commute_Possible.calls 9 vop va vb vn vcode vtext vrn _ _ (by rw [poss_f, HQ2.out])).mono ?_
        rintro e w9 ⟨rfl, hB9⟩
        refine ⟨_, rfl, ?_⟩
        have n1_ := Z0.mk (bsp HB.out hB9)
        have n2_ := Z0.mk (kbl BK1.out hB9)
        have n3_ := Z0.mk (kbl BK2.out hB9)
        clear HB BK1 BK2 hB9
        have HB := n1_
        have BK1 := n2_
        have BK2 := n3_
        clear n1_ n2_ n3_
        refine hK.out _ _ ⟨(kcl BK1.out 0).trans rfl, (kcl BK1.out 1).trans rfl, (kcl BK1.out 2).trans rfl, (kcl BK1.out 3).trans rfl, (kcl BK1.out 4).trans rfl, (kcl BK1.out 5).trans rfl, (kcl BK1.out 6).trans rfl, (kcl BK2.out 0).trans rfl, (kcl BK2.out 1).trans rfl, (kcl BK2.out 2).trans rfl, (kcl BK2.out 3).trans rfl, (kcl BK2.out 4).trans rfl, (kcl BK2.out 5).trans rfl, (kcl BK2.out 6).trans rfl⟩ (fun hHeld => ?_)
        clear hK K
        refine nm_ (some 36) ?_
        refine pu_ 16 (some 37) (bA 28 131071) ?_
        refine pu_ 17 (some 38) (bA 28 262143) ?_
        refine pn_ 18 (some 39) (bA 28 524287) ?_
        refine pn_ 19 (some 40) (bA 28 1048575) ?_
        refine pu_ 20 (some 41) (bA 28 2097151) ?_
        refine pu_ 21 (some 42) (bA 28 4194303) ?_
        refine pn_ 22 (some 43) (bA 28 8388607) ?_
        refine pn_ 23 (some 44) (bA 28 16777215) ?_
        refine pn_ 24 (some 45) (bA 28 33554431) ?_
        refine pn_ 25 (some 46) (bA 28 67108863) ?_
        refine pu_ 26 (some 47) (bA 28 134217727) ?_
        refine pu_ 27 (some 4) (bA 28 268435455) ?_
        refine done_ (by kernel_rfl) ?_
        go_wp2
        go_ret
        exact ⟨by rw [← HEQ.out, HCF.out, HK0.out, HQ1.out, HQ2.out]; first | rfl | simp, HB.out⟩
      | true =>
        have HQ2 := Z0.mk hq2
        cases hq3 : possR ⟨uop, ua, ub, un, ucode, utext, urn⟩ with
        | false =>
          have HQ3 := Z0.mk hq3
          go_upto_region 4 with fail
          refine start_ (n := 28) (S := fun w' => w'.cell? ⟨g1, 0, none⟩ = some (.int .i64 vop) ∧ w'.cell? ⟨g1, 1, none⟩ = some (.string va) ∧ w'.cell? ⟨g1, 2, none⟩ = some (.string vb) ∧ w'.cell? ⟨g1, 3, none⟩ = some (.int .i64 vn) ∧ w'.cell? ⟨g1, 4, none⟩ = some (.int .i64 vcode) ∧ w'.cell? ⟨g1, 5, none⟩ = some (.string vtext) ∧ w'.cell? ⟨g1, 6, none⟩ = some (.int .i64 vrn) ∧ w'.cell? ⟨g2, 0, none⟩ = some (.int .i64 uop) ∧ w'.cell? ⟨g2, 1, none⟩ = some (.string ua) ∧ w'.cell? ⟨g2, 2, none⟩ = some (.string ub) ∧ w'.cell? ⟨g2, 3, none⟩ = some (.int .i64 un) ∧ w'.cell? ⟨g2, 4, none⟩ = some (.int .i64 ucode) ∧ w'.cell? ⟨g2, 5, none⟩ = some (.string utext) ∧ w'.cell? ⟨g2, 6, none⟩ = some (.int .i64 urn)) (ds := []) #[false,false,false,false,false,false,false,false,false,false,false,false,false,false,false,false,false,false,false,false,false,false,false,false,false,false,false,false] (by kernel_rfl) rfl rfl ⟨(kcl BK1.out 0).trans rfl, (kcl BK1.out 1).trans rfl, (kcl BK1.out 2).trans rfl, (kcl BK1.out 3).trans rfl, (kcl BK1.out 4).trans rfl, (kcl BK1.out 5).trans rfl, (kcl BK1.out 6).trans rfl, (kcl BK2.out 0).trans rfl, (kcl BK2.out 1).trans rfl, (kcl BK2.out 2).trans rfl, (kcl BK2.out 3).trans rfl, (kcl BK2.out 4).trans rfl, (kcl BK2.out 5).trans rfl, (kcl BK2.out 6).trans rfl⟩ (fun hHeld => ?_)
          generalize w5.drew = w6 at HB BK1 BK2 hHeld ⊢
          refine pu_ 0 (some 21) (bA 28 1) ?_
          refine pu_ 1 (some 22) (bA 28 3) ?_
          refine pu_ 2 (some 23) (bA 28 7) ?_
          refine pu_ 3 (some 24) (bA 28 15) ?_
          refine pu_ 4 (some 25) (bA 28 31) ?_
          refine pu_ 7 (some 28) (bA 28 159) ?_
          refine pu_ 8 (some 29) (bA 28 415) ?_
          refine tk_ 5 (some 26) (bA 28 447) hHeld ?_
          refine tk_ 9 (some 30) (bA 28 959) hHeld ?_
          refine one_ (i := 6) (N := some 27) (bA 28 1023) rfl rfl (by kernel_rfl) (by decide) (fun K hK => ?_)
          refine goes_ Tryz.func24 (by kernel_rfl) rfl #[.int .i64 vop] (by rfl) rfl rfl (by (try simp only [List.map_toArray, List.map_cons, List.map_nil]); first | done | rfl | (simp only [Act.eval, Array.getD_eq_getD_getElem?, Option.getD_some, *]; done)) ?_
          with_reducible refine (method_Op_Kind.calls vop (kindR vop) _ (kind_f vop)).mono ?_
          rintro e w7 ⟨rfl, hB7⟩
          refine ⟨_, rfl, ?_⟩
          have n1_ := Z0.mk (bsp HB.out hB7)
          have n2_ := Z0.mk (kbl BK1.out hB7)
          have n3_ := Z0.mk (kbl BK2.out hB7)
          clear HB BK1 BK2 hB7
          have HB := n1_
          have BK1 := n2_
          have BK2 := n3_
          clear n1_ n2_ n3_
          refine hK.out _ _ ⟨(kcl BK1.out 0).trans rfl, (kcl BK1.out 1).trans rfl, (kcl BK1.out 2).trans rfl, (kcl BK1.out 3).trans rfl, (kcl BK1.out 4).trans rfl, (kcl BK1.out 5).trans rfl, (kcl BK1.out 6).trans rfl, (kcl BK2.out 0).trans rfl, (kcl BK2.out 1).trans rfl, (kcl BK2.out 2).trans rfl, (kcl BK2.out 3).trans rfl, (kcl BK2.out 4).trans rfl, (kcl BK2.out 5).trans rfl, (kcl BK2.out 6).trans rfl⟩ (fun hHeld => ?_)
          clear hK K
          refine nm_ (some 27) ?_
          refine one_ (i := 10) (N := some 31) (bA 28 2047) rfl rfl (by kernel_rfl) (by decide) (fun K hK => ?_)
          refine goes_ Tryz.func24 (by kernel_rfl) rfl #[.int .i64 uop] (by rfl) rfl rfl (by (try simp only [List.map_toArray, List.map_cons, List.map_nil]); first | done | rfl | (simp only [Act.eval, Array.getD_eq_getD_getElem?, Option.getD_some, *]; done)) ?_
          with_reducible refine (method_Op_Kind.calls uop (kindR uop) _ (kind_f uop)).mono ?_
          rintro e w8 ⟨rfl, hB8⟩
          refine ⟨_, rfl, ?_⟩
          have n1_ := Z0.mk (bsp HB.out hB8)
          have n2_ := Z0.mk (kbl BK1.out hB8)
          have n3_ := Z0.mk (kbl BK2.out hB8)
          clear HB BK1 BK2 hB8
          have HB := n1_
          have BK1 := n2_
          have BK2 := n3_
          clear n1_ n2_ n3_
          refine hK.out _ _ ⟨(kcl BK1.out 0).trans rfl, (kcl BK1.out 1).trans rfl, (kcl BK1.out 2).trans rfl, (kcl BK1.out 3).trans rfl, (kcl BK1.out 4).trans rfl, (kcl BK1.out 5).trans rfl, (kcl BK1.out 6).trans rfl, (kcl BK2.out 0).trans rfl, (kcl BK2.out 1).trans rfl, (kcl BK2.out 2).trans rfl, (kcl BK2.out 3).trans rfl, (kcl BK2.out 4).trans rfl, (kcl BK2.out 5).trans rfl, (kcl BK2.out 6).trans rfl⟩ (fun hHeld => ?_)
          clear hK K
          refine nm_ (some 31) ?_
          refine pu_ 11 (some 32) (bA 28 4095) ?_
          refine pu_ 12 (some 33) (bA 28 8191) ?_
          refine pu_ 13 (some 34) (bA 28 16383) ?_
          refine tk_ 14 (some 35) (bA 28 32767) hHeld ?_
          refine one_ (i := 15) (N := some 36) (bA 28 65535) rfl rfl (by kernel_rfl) (by decide) (fun K hK => ?_)
          refine goes_ Tryz.func72 (by kernel_rfl) rfl #[.agg #[.int .i64 vop, .string va, .string vb, .int .i64 vn, .int .i64 vcode, .string vtext, .int .i64 vrn]] (by rfl) rfl rfl (by (try simp only [List.map_toArray, List.map_cons, List.map_nil]); first | done | rfl | (simp only [Act.eval, Array.getD_eq_getD_getElem?, Option.getD_some, *]; done)) ?_
          with_reducible refine (commute_Possible.calls 9 vop va vb vn vcode vtext vrn _ _ (by rw [poss_f, HQ2.out])).mono ?_
          rintro e w9 ⟨rfl, hB9⟩
          refine ⟨_, rfl, ?_⟩
          have n1_ := Z0.mk (bsp HB.out hB9)
          have n2_ := Z0.mk (kbl BK1.out hB9)
          have n3_ := Z0.mk (kbl BK2.out hB9)
          clear HB BK1 BK2 hB9
          have HB := n1_
          have BK1 := n2_
          have BK2 := n3_
          clear n1_ n2_ n3_
          refine hK.out _ _ ⟨(kcl BK1.out 0).trans rfl, (kcl BK1.out 1).trans rfl, (kcl BK1.out 2).trans rfl, (kcl BK1.out 3).trans rfl, (kcl BK1.out 4).trans rfl, (kcl BK1.out 5).trans rfl, (kcl BK1.out 6).trans rfl, (kcl BK2.out 0).trans rfl, (kcl BK2.out 1).trans rfl, (kcl BK2.out 2).trans rfl, (kcl BK2.out 3).trans rfl, (kcl BK2.out 4).trans rfl, (kcl BK2.out 5).trans rfl, (kcl BK2.out 6).trans rfl⟩ (fun hHeld => ?_)
          clear hK K
          refine nm_ (some 36) ?_
          refine pu_ 16 (some 37) (bA 28 131071) ?_
          refine pu_ 17 (some 38) (bA 28 262143) ?_
          refine tk_ 18 (some 39) (bA 28 524287) hHeld ?_
          refine one_ (i := 19) (N := some 40) (bA 28 1048575) rfl rfl (by kernel_rfl) (by decide) (fun K hK => ?_)
          refine goes_ Tryz.func72 (by kernel_rfl) rfl #[.agg #[.int .i64 uop, .string ua, .string ub, .int .i64 un, .int .i64 ucode, .string utext, .int .i64 urn]] (by rfl) rfl rfl (by (try simp only [List.map_toArray, List.map_cons, List.map_nil]); first | done | rfl | (simp only [Act.eval, Array.getD_eq_getD_getElem?, Option.getD_some, *]; done)) ?_
          with_reducible refine (commute_Possible.calls 9 uop ua ub un ucode utext urn _ _ (by rw [poss_f, HQ3.out])).mono ?_
          rintro e w10 ⟨rfl, hB10⟩
          refine ⟨_, rfl, ?_⟩
          have n1_ := Z0.mk (bsp HB.out hB10)
          have n2_ := Z0.mk (kbl BK1.out hB10)
          have n3_ := Z0.mk (kbl BK2.out hB10)
          clear HB BK1 BK2 hB10
          have HB := n1_
          have BK1 := n2_
          have BK2 := n3_
          clear n1_ n2_ n3_
          refine hK.out _ _ ⟨(kcl BK1.out 0).trans rfl, (kcl BK1.out 1).trans rfl, (kcl BK1.out 2).trans rfl, (kcl BK1.out 3).trans rfl, (kcl BK1.out 4).trans rfl, (kcl BK1.out 5).trans rfl, (kcl BK1.out 6).trans rfl, (kcl BK2.out 0).trans rfl, (kcl BK2.out 1).trans rfl, (kcl BK2.out 2).trans rfl, (kcl BK2.out 3).trans rfl, (kcl BK2.out 4).trans rfl, (kcl BK2.out 5).trans rfl, (kcl BK2.out 6).trans rfl⟩ (fun hHeld => ?_)
          clear hK K
          refine nm_ (some 40) ?_
          refine pu_ 20 (some 41) (bA 28 2097151) ?_
          refine pu_ 21 (some 42) (bA 28 4194303) ?_
          refine pn_ 22 (some 43) (bA 28 8388607) ?_
          refine pn_ 23 (some 44) (bA 28 16777215) ?_
          refine pn_ 24 (some 45) (bA 28 33554431) ?_
          refine pn_ 25 (some 46) (bA 28 67108863) ?_
          refine pu_ 26 (some 47) (bA 28 134217727) ?_
          refine pu_ 27 (some 4) (bA 28 268435455) ?_
          refine done_ (by kernel_rfl) ?_
          go_wp2
          go_ret
          exact ⟨by rw [← HEQ.out, HCF.out, HK0.out, HQ1.out, HQ2.out, HQ3.out]; first | rfl | simp, HB.out⟩
        | true =>
          have HQ3 := Z0.mk hq3
          go_upto_region 4 with fail
          refine start_ (n := 28) (S := fun w' => w'.cell? ⟨g1, 0, none⟩ = some (.int .i64 vop) ∧ w'.cell? ⟨g1, 1, none⟩ = some (.string va) ∧ w'.cell? ⟨g1, 2, none⟩ = some (.string vb) ∧ w'.cell? ⟨g1, 3, none⟩ = some (.int .i64 vn) ∧ w'.cell? ⟨g1, 4, none⟩ = some (.int .i64 vcode) ∧ w'.cell? ⟨g1, 5, none⟩ = some (.string vtext) ∧ w'.cell? ⟨g1, 6, none⟩ = some (.int .i64 vrn) ∧ w'.cell? ⟨g2, 0, none⟩ = some (.int .i64 uop) ∧ w'.cell? ⟨g2, 1, none⟩ = some (.string ua) ∧ w'.cell? ⟨g2, 2, none⟩ = some (.string ub) ∧ w'.cell? ⟨g2, 3, none⟩ = some (.int .i64 un) ∧ w'.cell? ⟨g2, 4, none⟩ = some (.int .i64 ucode) ∧ w'.cell? ⟨g2, 5, none⟩ = some (.string utext) ∧ w'.cell? ⟨g2, 6, none⟩ = some (.int .i64 urn)) (ds := []) #[false,false,false,false,false,false,false,false,false,false,false,false,false,false,false,false,false,false,false,false,false,false,false,false,false,false,false,false] (by kernel_rfl) rfl rfl ⟨(kcl BK1.out 0).trans rfl, (kcl BK1.out 1).trans rfl, (kcl BK1.out 2).trans rfl, (kcl BK1.out 3).trans rfl, (kcl BK1.out 4).trans rfl, (kcl BK1.out 5).trans rfl, (kcl BK1.out 6).trans rfl, (kcl BK2.out 0).trans rfl, (kcl BK2.out 1).trans rfl, (kcl BK2.out 2).trans rfl, (kcl BK2.out 3).trans rfl, (kcl BK2.out 4).trans rfl, (kcl BK2.out 5).trans rfl, (kcl BK2.out 6).trans rfl⟩ (fun hHeld => ?_)
          generalize w5.drew = w6 at HB BK1 BK2 hHeld ⊢
          refine pu_ 0 (some 21) (bA 28 1) ?_
          refine pu_ 1 (some 22) (bA 28 3) ?_
          refine pu_ 2 (some 23) (bA 28 7) ?_
          refine pu_ 3 (some 24) (bA 28 15) ?_
          refine pu_ 4 (some 25) (bA 28 31) ?_
          refine pu_ 7 (some 28) (bA 28 159) ?_
          refine pu_ 8 (some 29) (bA 28 415) ?_
          refine tk_ 5 (some 26) (bA 28 447) hHeld ?_
          refine tk_ 9 (some 30) (bA 28 959) hHeld ?_
          refine one_ (i := 6) (N := some 27) (bA 28 1023) rfl rfl (by kernel_rfl) (by decide) (fun K hK => ?_)
          refine goes_ Tryz.func24 (by kernel_rfl) rfl #[.int .i64 vop] (by rfl) rfl rfl (by (try simp only [List.map_toArray, List.map_cons, List.map_nil]); first | done | rfl | (simp only [Act.eval, Array.getD_eq_getD_getElem?, Option.getD_some, *]; done)) ?_
          with_reducible refine (method_Op_Kind.calls vop (kindR vop) _ (kind_f vop)).mono ?_
          rintro e w7 ⟨rfl, hB7⟩
          refine ⟨_, rfl, ?_⟩
          have n1_ := Z0.mk (bsp HB.out hB7)
          have n2_ := Z0.mk (kbl BK1.out hB7)
          have n3_ := Z0.mk (kbl BK2.out hB7)
          clear HB BK1 BK2 hB7
          have HB := n1_
          have BK1 := n2_
          have BK2 := n3_
          clear n1_ n2_ n3_
          refine hK.out _ _ ⟨(kcl BK1.out 0).trans rfl, (kcl BK1.out 1).trans rfl, (kcl BK1.out 2).trans rfl, (kcl BK1.out 3).trans rfl, (kcl BK1.out 4).trans rfl, (kcl BK1.out 5).trans rfl, (kcl BK1.out 6).trans rfl, (kcl BK2.out 0).trans rfl, (kcl BK2.out 1).trans rfl, (kcl BK2.out 2).trans rfl, (kcl BK2.out 3).trans rfl, (kcl BK2.out 4).trans rfl, (kcl BK2.out 5).trans rfl, (kcl BK2.out 6).trans rfl⟩ (fun hHeld => ?_)
          clear hK K
          refine nm_ (some 27) ?_
          refine one_ (i := 10) (N := some 31) (bA 28 2047) rfl rfl (by kernel_rfl) (by decide) (fun K hK => ?_)
          refine goes_ Tryz.func24 (by kernel_rfl) rfl #[.int .i64 uop] (by rfl) rfl rfl (by (try simp only [List.map_toArray, List.map_cons, List.map_nil]); first | done | rfl | (simp only [Act.eval, Array.getD_eq_getD_getElem?, Option.getD_some, *]; done)) ?_
          with_reducible refine (method_Op_Kind.calls uop (kindR uop) _ (kind_f uop)).mono ?_
          rintro e w8 ⟨rfl, hB8⟩
          refine ⟨_, rfl, ?_⟩
          have n1_ := Z0.mk (bsp HB.out hB8)
          have n2_ := Z0.mk (kbl BK1.out hB8)
          have n3_ := Z0.mk (kbl BK2.out hB8)
          clear HB BK1 BK2 hB8
          have HB := n1_
          have BK1 := n2_
          have BK2 := n3_
          clear n1_ n2_ n3_
          refine hK.out _ _ ⟨(kcl BK1.out 0).trans rfl, (kcl BK1.out 1).trans rfl, (kcl BK1.out 2).trans rfl, (kcl BK1.out 3).trans rfl, (kcl BK1.out 4).trans rfl, (kcl BK1.out 5).trans rfl, (kcl BK1.out 6).trans rfl, (kcl BK2.out 0).trans rfl, (kcl BK2.out 1).trans rfl, (kcl BK2.out 2).trans rfl, (kcl BK2.out 3).trans rfl, (kcl BK2.out 4).trans rfl, (kcl BK2.out 5).trans rfl, (kcl BK2.out 6).trans rfl⟩ (fun hHeld => ?_)
          clear hK K
          refine nm_ (some 31) ?_
          refine pu_ 11 (some 32) (bA 28 4095) ?_
          refine pu_ 12 (some 33) (bA 28 8191) ?_
          refine pu_ 13 (some 34) (bA 28 16383) ?_
          refine tk_ 14 (some 35) (bA 28 32767) hHeld ?_
          refine one_ (i := 15) (N := some 36) (bA 28 65535) rfl rfl (by kernel_rfl) (by decide) (fun K hK => ?_)
          refine goes_ Tryz.func72 (by kernel_rfl) rfl #[.agg #[.int .i64 vop, .string va, .string vb, .int .i64 vn, .int .i64 vcode, .string vtext, .int .i64 vrn]] (by rfl) rfl rfl (by (try simp only [List.map_toArray, List.map_cons, List.map_nil]); first | done | rfl | (simp only [Act.eval, Array.getD_eq_getD_getElem?, Option.getD_some, *]; done)) ?_
          with_reducible refine (commute_Possible.calls 9 vop va vb vn vcode vtext vrn _ _ (by rw [poss_f, HQ2.out])).mono ?_
          rintro e w9 ⟨rfl, hB9⟩
          refine ⟨_, rfl, ?_⟩
          have n1_ := Z0.mk (bsp HB.out hB9)
          have n2_ := Z0.mk (kbl BK1.out hB9)
          have n3_ := Z0.mk (kbl BK2.out hB9)
          clear HB BK1 BK2 hB9
          have HB := n1_
          have BK1 := n2_
          have BK2 := n3_
          clear n1_ n2_ n3_
          refine hK.out _ _ ⟨(kcl BK1.out 0).trans rfl, (kcl BK1.out 1).trans rfl, (kcl BK1.out 2).trans rfl, (kcl BK1.out 3).trans rfl, (kcl BK1.out 4).trans rfl, (kcl BK1.out 5).trans rfl, (kcl BK1.out 6).trans rfl, (kcl BK2.out 0).trans rfl, (kcl BK2.out 1).trans rfl, (kcl BK2.out 2).trans rfl, (kcl BK2.out 3).trans rfl, (kcl BK2.out 4).trans rfl, (kcl BK2.out 5).trans rfl, (kcl BK2.out 6).trans rfl⟩ (fun hHeld => ?_)
          clear hK K
          refine nm_ (some 36) ?_
          refine pu_ 16 (some 37) (bA 28 131071) ?_
          refine pu_ 17 (some 38) (bA 28 262143) ?_
          refine tk_ 18 (some 39) (bA 28 524287) hHeld ?_
          refine one_ (i := 19) (N := some 40) (bA 28 1048575) rfl rfl (by kernel_rfl) (by decide) (fun K hK => ?_)
          refine goes_ Tryz.func72 (by kernel_rfl) rfl #[.agg #[.int .i64 uop, .string ua, .string ub, .int .i64 un, .int .i64 ucode, .string utext, .int .i64 urn]] (by rfl) rfl rfl (by (try simp only [List.map_toArray, List.map_cons, List.map_nil]); first | done | rfl | (simp only [Act.eval, Array.getD_eq_getD_getElem?, Option.getD_some, *]; done)) ?_
          with_reducible refine (commute_Possible.calls 9 uop ua ub un ucode utext urn _ _ (by rw [poss_f, HQ3.out])).mono ?_
          rintro e w10 ⟨rfl, hB10⟩
          refine ⟨_, rfl, ?_⟩
          have n1_ := Z0.mk (bsp HB.out hB10)
          have n2_ := Z0.mk (kbl BK1.out hB10)
          have n3_ := Z0.mk (kbl BK2.out hB10)
          clear HB BK1 BK2 hB10
          have HB := n1_
          have BK1 := n2_
          have BK2 := n3_
          clear n1_ n2_ n3_
          refine hK.out _ _ ⟨(kcl BK1.out 0).trans rfl, (kcl BK1.out 1).trans rfl, (kcl BK1.out 2).trans rfl, (kcl BK1.out 3).trans rfl, (kcl BK1.out 4).trans rfl, (kcl BK1.out 5).trans rfl, (kcl BK1.out 6).trans rfl, (kcl BK2.out 0).trans rfl, (kcl BK2.out 1).trans rfl, (kcl BK2.out 2).trans rfl, (kcl BK2.out 3).trans rfl, (kcl BK2.out 4).trans rfl, (kcl BK2.out 5).trans rfl, (kcl BK2.out 6).trans rfl⟩ (fun hHeld => ?_)
          clear hK K
          refine nm_ (some 40) ?_
          refine pu_ 20 (some 41) (bA 28 2097151) ?_
          refine pu_ 21 (some 42) (bA 28 4194303) ?_
          refine pu_ 22 (some 43) (bA 28 8388607) ?_
          refine tk_ 23 (some 44) (bA 28 16777215) hHeld ?_
          refine tk_ 24 (some 45) (bA 28 33554431) hHeld ?_
          refine one_ (i := 25) (N := some 46) (bA 28 67108863) rfl rfl (by kernel_rfl) (by decide) (fun K hK => ?_)
          refine goesv_ HRU.out.fn HRU.out.nm HRU.out.bd #[.agg #[.int .i64 vop, .string va, .string vb, .int .i64 vn, .int .i64 vcode, .string vtext, .int .i64 vrn], .agg #[.int .i64 uop, .string ua, .string ub, .int .i64 un, .int .i64 ucode, .string utext, .int .i64 urn]] (by rfl) rfl rfl (by rfl) (by (try simp only [List.map_toArray, List.map_cons, List.map_nil]); first | done | rfl | (simp only [Act.eval, Array.getD_eq_getD_getElem?, Option.getD_some, *]; done)) ?_
          with_reducible refine (HRU.out.calls vop va vb vn vcode vtext vrn uop ua ub un ucode utext urn _).mono ?_
          rintro e w11 ⟨rfl, hB11⟩
          refine ⟨_, rfl, ?_⟩
          have n1_ := Z0.mk (bsp HB.out hB11)
          have n2_ := Z0.mk (kbl BK1.out hB11)
          have n3_ := Z0.mk (kbl BK2.out hB11)
          clear HB BK1 BK2 hB11
          have HB := n1_
          have BK1 := n2_
          have BK2 := n3_
          clear n1_ n2_ n3_
          refine hK.out _ _ ⟨(kcl BK1.out 0).trans rfl, (kcl BK1.out 1).trans rfl, (kcl BK1.out 2).trans rfl, (kcl BK1.out 3).trans rfl, (kcl BK1.out 4).trans rfl, (kcl BK1.out 5).trans rfl, (kcl BK1.out 6).trans rfl, (kcl BK2.out 0).trans rfl, (kcl BK2.out 1).trans rfl, (kcl BK2.out 2).trans rfl, (kcl BK2.out 3).trans rfl, (kcl BK2.out 4).trans rfl, (kcl BK2.out 5).trans rfl, (kcl BK2.out 6).trans rfl⟩ (fun hHeld => ?_)
          clear hK K
          refine nm_ (some 46) ?_
          refine pu_ 26 (some 47) (bA 28 134217727) ?_
          refine pu_ 27 (some 4) (bA 28 268435455) ?_
          refine done_ (by kernel_rfl) ?_
          go_wp2
          go_ret
          exact ⟨by rw [← HEQ.out, HCF.out, HK0.out, HQ1.out, HQ2.out, HQ3.out]; first | rfl | simp, HB.out⟩
end Go.Proofs.YtjiblcncadekcaaGreat.PA

