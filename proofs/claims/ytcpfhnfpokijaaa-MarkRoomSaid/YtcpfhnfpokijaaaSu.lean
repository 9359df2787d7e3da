/- Ranges over functions: a call of yield, a round's body, the statement, and the functions that hold it. -/
import Derived.Test.YtcpfhnfpokijaaaSn
import Derived.RangeFuncKeeps
import Derived.Lib.AppendStr
import Derived.Lib.ConvBytes
namespace Go.Proofs.Ytcpfhnfpokijaaa
open Go.RowKit Go.Lib

/-- A loop's record, but for its state. -/
structure Lc where
  fn : FuncId
  tmps : Array Value
  ps : Array Tmp
  asg : Code
  body : Code
  D : Nat
abbrev Lr (c : Lc) (st : LoopState) (pe : Option Code) : Obj := .loop { state := st, pending := pe, fn := c.fn, tmps := c.tmps, params := c.ps, assign := c.asg, body := c.body, defers := c.D }

theorem Fr.putObj {w : World} {l : Nat} {o : Obj} : Fr [l] w (w.putObj l o) := ⟨rfl, rfl, rfl, by simp, fun _ _ hk => World.putObj_heap_other (fun e => hk (by simp [e])), Nat.le_refl _⟩
theorem Hp.putObj {w : World} {H : Heap} {i l : Nat} {o : Obj} (o' : Obj) (h : Hp w H) (hi : H[i]? = some (some l, o)) : Hp (w.putObj l o') (H.set i (some l, o')) :=
  h.setAt hi Fr.putObj (World.putObj_heap_same (heap_lt (h.at hi)))

/-- A call of yield: the round goes on (T), or the loop is left (F). -/
def YieldsTo (P : Program) (l : Nat) (xs : List Value) (w : World) (T F : World → Prop) : Prop :=
  ∃ fn tmps asg body, (Instr.yield l xs.toArray).run P w = .ok (.round l fn tmps asg body) w ∧
    RoundIn Fence.wide 0 P l fn tmps asg body w (fun e w' => ∃ b, e = .returned (.bool b) ∧ (b = true → T w') ∧ (b = false → F w'))

section
variable [Dfs] {P : Program} {n : Nat} {Q : EQ} {env : Env} {w : World} {ops : Array Oper} {o : Oper} {rest : List Oper}

theorem Ls_yield {x : Operand} {xs : List Operand} {vs : List Value} {ts : Array TypeId} {d l : Nat} {T F : World → Prop} (hw : Wtd n env ops o true)
    (ho : o.op = .call { callee := .value x, args := xs.toArray, argTypes := ts }) (hf : env.ev x = some (.func (.yield l) #[] #[])) (hx : env.evs xs = some vs)
    (hd : o.dst = some d) (hn : Nat.blt d n = true) (hy : YieldsTo P l vs w T F)
    (h1 : ∀ w', T w' → Ls P n ops Q rest ((d, .bool true) :: env) w') (h2 : ∀ w', F w' → Ls P n ops Q rest ((d, .bool false) :: env) w') : Ls P n ops Q (o :: rest) env w := fun hnd a r =>
  wpListIn_step fun K hK => by
    rw [if_pos (hw a r)]
    refine ⟨fun _ _ => trivial, ?_⟩
    rw [Oper.semFw _ (nd_hd hnd)]
    obtain ⟨fn, tmps, asg, body, hrun, hR⟩ := hy
    have e1 := r.evals hx
    have e2 := r.eval hf
    have hrun2 : (execOp a.eval o).run P w = .ok (.round l fn tmps asg body) w := by
      unfold execOp
      simp only [ho, resolve, e2, Deferred.ofValue, Sem.run_bind, Sem.run_pure, Result.andThen_ok, invoke]
      simp [e1, hrun]
    rw [hrun2, Oper.uponIn_round]
    refine ⟨fun h => by simp [Fw, Fence.wide] at h, trivial, fun c cs _ => ?_⟩
    obtain ⟨e, w', ⟨b, he, ht, hf'⟩, hs⟩ := hR.2 c cs (room_wide _)
    subst he
    refine ⟨.returned (.bool b), w', ?_, hs⟩
    have r' := r.put hn (.bool b)
    rw [← hd] at r'
    cases b with
    | true => exact hK _ _ (h1 w' (ht rfl) (nd_tl hnd) _ r')
    | false => exact hK _ _ (h2 w' (hf' rfl) (nd_tl hnd) _ r')
end

section
variable [Dfs] {P : Program} {n : Nat} {env : Env} {S : World → Prop} {o : Oper}
theorem y_min {x y : Operand} {t u : Nat} {k : IntKind} {p q : Int} (ho : o.op = .call { callee := .builtin .min, args := #[x, y], argTypes := #[t, u] }) (hx : env.ev x = some (.int k p)) (hy : env.ev y = some (.int k q)) : Yld P n env S o (.int k (min p q)) := fun a r w _ => by
  refine run_builtin2 ho (r.eval hx) (r.eval hy) fun c => ?_
  have e : (if q < p then q else p) = min p q := by simp only [Int.min_def]; split <;> split <;> omega
  simp [builtin, Builtin.min_, Builtin.min2, ← e]
end
/-- How a round may end. -/
def Rd (c : Lc) (l : Nat) (T F : World → Prop) : EQ := fun e _ w => match e with
  | .normal => w.heap[l]? = some (Lr c .busy none) ∧ T (w.putObj l (Lr c .ready none))
  | .ret => w.heap[l]? = some (Lr c .busy none) ∧ F (w.putObj l (Lr c .done (some .ret)))
  | .exit id => w.heap[l]? = some (Lr c .busy none) ∧ F (w.putObj l (Lr c .done (some (.exit id))))
  | _ => False
section
variable {c : Lc} {l i : Nat} {T F : World → Prop} {env : Env} {w : World} {H : Heap}
theorem Rd_n (hp : Hp w H) (hi : H[i]? = some (some l, Lr c .busy none)) (h : ∀ W, Hp W (H.set i (some l, Lr c .ready none)) → Fr [l] w W → T W) : Rd c l T F .normal env w := ⟨hp.at hi, h _ (hp.putObj _ hi) Fr.putObj⟩
theorem Rd_r (hp : Hp w H) (hi : H[i]? = some (some l, Lr c .busy none)) (h : ∀ W, Hp W (H.set i (some l, Lr c .done (some .ret))) → Fr [l] w W → F W) : Rd c l T F .ret env w := ⟨hp.at hi, h _ (hp.putObj _ hi) Fr.putObj⟩
theorem Rd_e {id : Nat} (hp : Hp w H) (hi : H[i]? = some (some l, Lr c .busy none)) (h : ∀ W, Hp W (H.set i (some l, Lr c .done (some (.exit id)))) → Fr [l] w W → F W) : Rd c l T F (.exit id) env w := ⟨hp.at hi, h _ (hp.putObj _ hi) Fr.putObj⟩
end

/-- The round's parameters over an environment. -/
def parEnv : List Tmp → List Value → Env → Env
  | t :: ts, v :: vs, e => parEnv ts vs ((t, v) :: e)
  | _, _, e => e
structure TmOk (n : Nat) (env : Env) (t : Array Value) : Prop where
  size : t.size = n
  get : ∀ k v, env.get k = some v → t[k]? = some v
theorem TmOk.par {n : Nat} : ∀ (ts : List Tmp) (vs : List Value) (env : Env) (t : Array Value), TmOk n env t → (ts.all (Nat.blt · n)) = true → TmOk n (parEnv ts vs env) ((ts.zip vs).foldl (fun tmps (t, a) => tmps.setIfInBounds t a) t)
  | [], _, _, _, h, _ => h
  | _ :: _, [], _, _, h, _ => h
  | d :: ts, v :: vs, env, t, h, hb => by
    simp only [List.all_cons, Bool.and_eq_true] at hb
    have hd : d < n := by simpa [Nat.blt_eq] using hb.1
    refine TmOk.par ts vs ((d, v) :: env) _ ⟨by simp [h.size], fun k u hk => ?_⟩ hb.2
    unfold Env.get at hk
    by_cases e : d = k
    · subst e
      simp at hk
      subst hk
      simp [h.size, hd]
    · rw [beq_ne e] at hk
      simp only [cond_false] at hk
      rw [Array.getElem?_setIfInBounds_ne e]
      exact h.get k u hk

theorem yieldsTo {P : Program} {n l : Nat} {c : Lc} {xs : List Value} {env : Env} {w : World} {T F : World → Prop} (ps : List Tmp) (hps : c.ps = ps.toArray) (hl : xs.length = ps.length) (hb : (ps.all (Nat.blt · n)) = true)
    (hw : w.heap[l]? = some (Lr c .ready none)) (ht : TmOk n env c.tmps)
    (h : ∀ [Dfs], Wp P n c.asg (Th (fun e w1 => ∃ H i, Hp w1 H ∧ H[i]? = some (some l, Lr c .ready none) ∧ ∀ W2, Hp W2 (H.set i (some l, Lr c .busy none)) → Fr [l] w1 W2 → Wp P n c.body (Rd c l T F) e W2) (fun _ _ _ => False)) (parEnv ps xs env) w) :
    YieldsTo P l xs w T F := by
  have h1 := run_yield (P := P) (args := xs.toArray) hw (by simp [hps, hl])
  refine ⟨_, _, _, _, h1, ?_⟩
  refine roundIn_of_wpIn trivial ?_
  have hr := TmOk.par ps xs env c.tmps ht hb
  have h2 := @h ⟨[], some l⟩
  have e1 : (Array.foldl (fun tmps x => tmps.setIfInBounds x.fst x.snd) c.tmps (c.ps.zip xs.toArray)) = ((ps.zip xs).foldl (fun tmps (t, a) => tmps.setIfInBounds t a) c.tmps) := by
    rw [hps]; simp
  have h3 := h2 { tmps := (ps.zip xs).foldl (fun tmps (t, a) => tmps.setIfInBounds t a) c.tmps, defers := [] } (@Rep.mk ⟨[], some l⟩ _ _ _ hr.size rfl hr.get)
  simp only [e1]
  refine Code.wpIn_mono (fun e a' w' hq => ?_) h3
  obtain ⟨env', r', q⟩ := hq
  cases e with
  | normal =>
    obtain ⟨H, i, hp, hi, q2⟩ := q
    refine ⟨_, run_beginRound (hp.at hi) rfl, ?_⟩
    refine Code.wpIn_mono (fun e2 a2 w2 hq2 => ?_) (q2 _ (hp.putObj _ hi) Fr.putObj a' r')
    obtain ⟨env2, r2, q3⟩ := hq2
    cases e2 with
    | normal => exact ⟨_, _, run_endRound none q3.1, true, rfl, fun _ => q3.2, fun hf => by cases hf⟩
    | ret => exact ⟨_, _, run_endRound (some .ret) q3.1, false, rfl, (fun hf => by cases hf), fun _ => q3.2⟩
    | exit id => exact ⟨_, _, run_endRound (some (.exit id)) q3.1, false, rfl, (fun hf => by cases hf), fun _ => q3.2⟩
    | _ => exact q3.elim
  | _ => exact q.elim

/-! ### Functions that hold one such statement -/
abbrev pnd (D : Nat) : Dfs := ⟨[{ target := .collected D, args := #[] }], none⟩
/-- The function's end, with the mark still to be come to. -/
def FqM [Dfs] (P : Program) (n : Nat) (fn : Func) (D : Nat) (Post : Value → World → Prop) : EQ := fun e env w => match e with
  | .normal | .ret => w.heap[D]? = some (.deferred (some [])) ∧ ∃ v, Res P n fn env (w.putObj D (.deferred none)) v ∧ Post v (w.putObj D (.deferred none))
  | _ => False
theorem FqM_ret [Dfs] {P : Program} {n i D : Nat} {fn : Func} {env : Env} {w : World} {H : Heap} {Post : Value → World → Prop} (hp : Hp w H) (hi : H[i]? = some (some D, .deferred (some [])))
    (h : ∀ W, Hp W (H.set i (some D, .deferred none)) → Fr [D] w W → ∃ v, Res P n fn env W v ∧ Post v W) : FqM P n fn D Post .ret env w := ⟨hp.at hi, h _ (hp.putObj _ hi) Fr.putObj⟩

abbrev fnPost (Post : Value → World → Prop) : Ending → World → Prop := fun e w' => ∃ v, e = .returned v ∧ Post v w'
/-- The rest of a function's code, ahead of the statement. -/
def WfL (P : Program) (fn : Func) (Post : Value → World → Prop) : List Code → Act → World → Prop
  | [] => bodyPostM Fence.wide 0 P fn (fnPost Post) .normal
  | c :: cs => c.wpIn Fence.wide 0 P (Exit.then (WfL P fn Post cs) (bodyPostM Fence.wide 0 P fn (fnPost Post)))
def Wf (P : Program) (n : Nat) (fn : Func) (Post : Value → World → Prop) (cs : List Code) (env : Env) (w : World) : Prop := ∀ a, @Rep dfs0 n env a → WfL P fn Post cs a w
/-- The rest of a function's code, behind the statement. -/
def Wd [Dfs] (P : Program) (n : Nat) (fn : Func) (D : Nat) (Post : Value → World → Prop) : List Code → Env → World → Prop
  | [] => FqM P n fn D Post .normal
  | c :: cs => Wp P n c (Th (Wd P n fn D Post cs) (FqM P n fn D Post))

section
variable {P : Program} {n : Nat} {fn : Func} {Post : Value → World → Prop} {env : Env} {w : World} {x y z : Code} {cs : List Code}
theorem Wf_weak (env' : Env) (hl : Env.Le env' env) (h : Wf P n fn Post cs env' w) : Wf P n fn Post cs env w := fun a r => h a (r.weak hl)
theorem Wf_seq (h : Wf P n fn Post (x :: y :: cs) env w) : Wf P n fn Post (.seq x y :: cs) env w := fun a r =>
  wpIn_seq (Code.wpIn_mono (fun e a' w' hq => by cases e <;> exact hq) (h a r))
theorem fq_post {a : Act} {e : Exit} (he : e = .normal ∨ e = .ret) (r : @Rep dfs0 n env a) (h : @Fq dfs0 P n fn (fnPost Post) e env w) : bodyPostM Fence.wide 0 P fn (fnPost Post) e a w := by
  have hd : a.defers = [] := r.defers
  rcases he with rfl | rfl <;>
  · obtain ⟨v, hv, hP⟩ := h
    simp only [bodyPostM, hd]
    exact ⟨v, hv a r, hP⟩
theorem Wf_x (h : ∀ K : Env → World → Prop, (∀ e v, Wf P n fn Post cs e v → K e v) → @Wp dfs0 P n x (Th K (@Fq dfs0 P n fn (fnPost Post))) env w) : Wf P n fn Post (x :: cs) env w := fun a r =>
  Code.wpIn_mono (fun e a' w' hq => by
    obtain ⟨env', r', q⟩ := hq
    cases e with
    | normal => exact q a' r'
    | ret => exact fq_post (.inr rfl) r' q
    | _ => exact q.elim) (h (Wf P n fn Post cs) (fun _ _ h => h) a r)
theorem Wf_nil (h : @Fq dfs0 P n fn (fnPost Post) .normal env w) : Wf P n fn Post [] env w := fun _ r => fq_post (.inl rfl) r h

theorem fqm_post {a : Act} {e : Exit} {D : Nat} (he : e = .normal ∨ e = .ret) (r : @Rep (pnd D) n env a) (h : @FqM (pnd D) P n fn D Post e env w) : bodyPostM Fence.wide 0 P fn (fnPost Post) e a w := by
  have hd : a.defers = [{ target := .collected D, args := #[] }] := @Rep.defers (pnd D) _ _ _ r
  rcases he with rfl | rfl <;>
  · obtain ⟨h1, v, hv, hP⟩ := h
    simp only [bodyPostM, hd]
    refine ⟨by simp, .inl ⟨D, _, rfl, run_takeDeferred h1, v, hv a r, v, rfl, hP⟩⟩
theorem Wd_WfL {D : Nat} : ∀ (cs : List Code) (env : Env) (w : World) (a : Act), @Wd (pnd D) P n fn D Post cs env w → @Rep (pnd D) n env a → WfL P fn Post cs a w
  | [], _, _, _, h, r => fqm_post (.inl rfl) r h
  | c :: cs, env, w, a, h, r => Code.wpIn_mono (fun e a' w' hq => by
      obtain ⟨env', r', q⟩ := hq
      cases e with
      | normal => exact Wd_WfL cs env' w' a' q r'
      | ret => exact fqm_post (.inr rfl) r' q
      | _ => exact q.elim) (h a r)

/-- The statement. -/
theorem Wf_rf {id gf : Nat} {g : Operand} {ps : Array Tmp} {asg body : Code} {lb : List Value} (hg : env.ev g = some (.func (.func gf) #[] lb.toArray)) (hent : entersB P gf = true)
    (h : ∀ (c : Lc) (D l : Nat) (W : World), c.ps = ps → c.asg = asg → c.body = body → TmOk n env c.tmps → Fr [] w W → w.heap.size ≤ D → w.heap.size ≤ l → (∀ H, Hp w H → Hp W (H ++ [(some D, .deferred (some [])), (some l, Lr c .ready none)])) →
      Fn P gf (.func (.yield l) #[] #[] :: lb) W fun _ W' =>
        (∃ H i, Hp W' H ∧ H[i]? = some (some l, Lr c .ready none) ∧ ∀ W2, Hp W2 (H.set i (some l, Lr c .exhausted none)) → Fr [l] W' W2 → ∀ [Dfs], Wd P n fn D Post cs env W2) ∨
        (∃ H i, Hp W' H ∧ H[i]? = some (some l, Lr c .done (some (.exit id))) ∧ ∀ W2, Hp W2 (H.set i (some l, Lr c .exhausted (some (.exit id)))) → Fr [l] W' W2 → ∀ [Dfs], Wd P n fn D Post cs env W2) ∨
        (∃ H i, Hp W' H ∧ H[i]? = some (some l, Lr c .done (some .ret)) ∧ ∀ W2, Hp W2 (H.set i (some l, Lr c .exhausted (some .ret))) → Fr [l] W' W2 → ∀ [Dfs], FqM P n fn D Post .ret env W2)) :
    Wf P n fn Post (.block id (.rangeFunc g ps asg body) :: cs) env w := fun a r => by
  refine wpIn_block (wpIn_rangeFunc fun f _ => ?_)
  have e2 := r.eval hg
  obtain ⟨c, hc⟩ : ∃ c : Lc, c = ⟨f, a.tmps, ps, asg, body, w.heap.size⟩ := ⟨_, rfl⟩
  obtain ⟨W1, hW1⟩ : ∃ W1, (w.alloc (.deferred (some []))).alloc (Lr c .ready none) = W1 := ⟨_, rfl⟩
  have hsz : (w.alloc (.deferred (some []))).heap.size = w.heap.size + 1 := World.size_alloc ..
  have hF : Fr [] w W1 := by rw [← hW1]; exact (Fr.alloc w _).step0 (Fr.alloc _ _)
  have hmain := h c w.heap.size (w.heap.size + 1) W1 (by rw [hc]) (by rw [hc]) (by rw [hc]) (by rw [hc]; exact ⟨r.size, r.get⟩) hF (Nat.le_refl _) (by omega) (fun H hp => by
    have h1 := (hp.alloc (.deferred (some []))).alloc (Lr c .ready none)
    rw [hW1, hsz, List.append_assoc] at h1
    exact h1)
  refine ⟨w.heap.size + 1, [{ target := .collected w.heap.size, args := #[] }], W1, { target := .fn (.func gf) lb.toArray, args := #[.func (.yield (w.heap.size + 1)) #[] #[]] }, W1, gf,
    (.func (.yield (w.heap.size + 1)) #[] #[] :: lb).toArray, W1, ?_, ?_, fun _ _ => trivial, ?_, fun h => by simp [Fence.wide] at h, ?_⟩
  · rw [← hW1, hc]; exact run_enterLoop_outer _ _ _ _ _
  · simp only [resolve, e2]
    simp [go_sem]
  · have eg := hent
    unfold entersB at eg
    cases hq : P.funcs[gf]? with
    | none => simp [hq] at eg
    | some fn' =>
      simp only [hq, Bool.and_eq_true, Bool.not_eq_true', beq_eq_false_iff_ne] at eg
      obtain ⟨h2, h3⟩ := eg
      have h4 : ¬ fn'.body = none := by intro hbb; simp [hbb] at h3
      simp only [invoke]
      simp [callFunc, hq, h2, h4]
  · have hcalls := (callsIn_wide (n := 0 - 1)).2 hmain.2
    refine hcalls.mono fun e W' ⟨v, he, hv⟩ => ?_
    subst he
    have hd0 : a.defers = [] := r.defers
    have ra : @Rep (pnd w.heap.size) n env { a with defers := [{ target := .collected w.heap.size, args := #[] }] ++ a.defers } := @Rep.mk (pnd _) _ _ _ r.size (by rw [hd0]; rfl) r.get
    rcases hv with ⟨H, i, hp, hi, h2⟩ | ⟨H, i, hp, hi, h2⟩ | ⟨H, i, hp, hi, h2⟩
    · exact ⟨none, _, run_endLoop (hp.at hi) (by simp), Wd_WfL cs env _ _ (@h2 _ (hp.putObj _ hi) Fr.putObj (pnd _)) ra⟩
    · refine ⟨some (.exit id), _, run_endLoop (hp.at hi) (by simp), ?_⟩
      refine wpIn_exit ?_
      simp only [Exit.inBlock, if_true]
      exact Wd_WfL cs env _ _ (@h2 _ (hp.putObj _ hi) Fr.putObj (pnd _)) ra
    · refine ⟨some .ret, _, run_endLoop (hp.at hi) (by simp), ?_⟩
      exact wpIn_ret (fqm_post (.inr rfl) ra (@h2 _ (hp.putObj _ hi) Fr.putObj (pnd _)))

theorem Fn_ofM {f : FuncId} {c : Code} {args : List Value} (n : Nat) (he : entersB P f = true) (hf : P.funcs[f]? = some fn) (hb : fn.body = some c) (hn : fn.ntmps = n) (hle : Nat.ble args.length n = true)
    (h : Wf P n fn Post [c] (argEnv 0 args) w) : Fn P f args w Post := by
  refine ⟨he, callsIn_wide (n := 0) |>.1 (callsIn_of_wp_marks hf hb trivial (Code.wpIn_mono (fun e a' w' hq => by cases e <;> exact hq) (h _ ⟨?_, rfl, fun k v hk => ?_⟩)))⟩
  · have : args.length ≤ n := by simpa [Nat.ble_eq] using hle
    simp [hn]; omega
  · obtain ⟨_, h2⟩ := argEnv_get args 0 k v hk
    simp only [Nat.sub_zero] at h2
    have hlt : k < args.length := (List.getElem?_eq_some_iff.1 h2).1
    have h3 : args[k] = v := (List.getElem?_eq_some_iff.1 h2).2
    simp [Array.getElem?_append, hlt, h3]
end
/-! ### []byte of a string -/
abbrev ClF (cs : List Value) (t : TypeId) (fr : Nat × Nat) : Obj := .cells cs.toArray t fr
theorem cell_ofF {w : World} {H : Heap} {g i k ty : Nat} {fr : Nat × Nat} {cs : List Value} {v : Value} (h : Hp w H) (hi : H[i]? = some (some g, ClF cs ty fr)) (hv : cs[k]? = some v) : w.cell? ⟨g, k, none⟩ = some v := by
  have hb := h.at hi
  simp [World.cell?, hb, hv]
theorem range_ofF {w : World} {H : Heap} {g i k m ty : Nat} {fr : Nat × Nat} {cs : List Value} (h : Hp w H) (hi : H[i]? = some (some g, ClF cs ty fr)) : w.rangeAt g k ((cs.drop k).take m) := fun j v hj => by
  refine cell_ofF h hi ?_
  rw [List.getElem?_take] at hj
  split at hj
  · rw [List.getElem?_drop] at hj; exact hj
  · cases hj
section
variable [Dfs] {P : Program} {n : Nat} {env : Env} {w : World} {o : Oper} {K : Env → World → Prop} {H : Heap}
theorem a_cvstr {src dst e : Nat} {x : Operand} {s : List UInt8} (ho : o.op = .convert src dst x) {d : Nat} (hd : o.dst = some d) (hn : Nat.blt d n = true) (hx : env.ev x = some (sv s)) (hs : P.underlying src = some .string) (hdst : P.underlying dst = some (.slice e)) (he : P.underlying e = some (.int .u8)) (h : Hp w H)
    (hK : ∀ g c sp fr w', s.length ≤ c → Hp w' (H ++ [(some g, ClF (s.map bv ++ sp) e fr)]) → Fr [] w w' → w.heap.size ≤ g → K ((d, .slice (some ⟨g, 0, none⟩) s.length c) :: env) w') : Act1 P n env w o K := by
  have hr := Go.Lib.run_convert_string_bytes (P := P) w src dst e ⟨s.toArray⟩ hs hdst he
  have hsz : (⟨s.toArray⟩ : ByteArray).size = s.length := by simp [ByteArray.size]
  rw [hsz] at hr
  have hge := grownCap_ge w s.length 0 e
  have hF : Fr [] w (Go.Lib.bytesWorld w e ⟨s.toArray⟩) := ⟨rfl, rfl, rfl, by rw [Go.Lib.bytesWorld_size]; omega, fun k hk _ => Go.Lib.bytesWorld_at_old w e _ k hk, Nat.le_succ _⟩
  have hbc : Go.Lib.bytesCells w e ⟨s.toArray⟩ = (s.map bv ++ List.replicate (grownCap w s.length 0 e - s.length) (Value.int .u8 0)).toArray := by
    unfold Go.Lib.bytesCells
    rw [hsz]
    apply Array.ext'
    simp
  have hblk := Go.Lib.bytesWorld_at_new w e ⟨s.toArray⟩
  rw [hbc] at hblk
  refine a_run hd hn (v := .slice (some ⟨w.heap.size, 0, none⟩) s.length (grownCap w s.length 0 e)) (w' := Go.Lib.bytesWorld w e ⟨s.toArray⟩) (fun a r => ?_) (hK w.heap.size _ _ _ _ hge (h.push hF (Nat.le_refl _) hblk) hF (Nat.le_refl _))
  unfold execOp
  simp only [ho, r.eval hx, Sem.run_bind, hr, Result.andThen_ok]
  rfl
end
/-! ### append of a string's bytes -/
section
variable [Dfs] {P : Program} {n : Nat} {env : Env} {w : World} {o : Oper} {K : Env → World → Prop} {H : Heap}
theorem a_appstr {t ty' e l c i : Nat} {x y : Operand} {A : Option Addr} {xs sp : List Value} {s : List UInt8} (ho : o.op = .call { callee := .builtin .append, args := #[x, y], argTypes := #[t, ty'] }) {d : Nat} (hd : o.dst = some d) (hn : Nat.blt d n = true)
    (hx : env.ev x = some (.slice A l c)) (hy : env.ev y = some (sv s)) (ht : elemSize P t = some (e, 1)) (hut : P.underlying ty' = some .string) (hz : (P.info? e).map (·.zero) = some (some (.int .u8 0))) (hby : (P.info? e).map (·.bytes) = some 1)
    (how : Ow A l c 1 xs sp) (h : Hp w H) (hi : H[i]? = some (blkOf A, Cl (xs ++ sp) e)) (h63 : l + s.length ≤ maxLen) (hbytes : l + s.length ≤ 140737488355328)
    (hK : ∀ A' c' sp' w', Ow A' (l + s.length) c' 1 (xs ++ s.map bv) sp' → Hp w' (H.set i (blkOf A', Cl ((xs ++ s.map bv) ++ sp') e)) → Fr (blkOf A).toList w w' → (∀ g, blkOf A' = some g → blkOf A = some g ∨ w.heap.size ≤ g) → K ((d, (.slice A' (l + s.length) c')) :: env) w') : Act1 P n env w o K := by
  obtain ⟨hu, hs⟩ := elemSize_spec ht
  cases hq : P.info? e with
  | none => simp [hq] at hz
  | some inf =>
      have hz1 : inf.zero = some (.int .u8 0) := by simpa [hq] using hz
      have hms : inf.size = 1 := by simpa [hq] using hs
      have hb : inf.bytes = 1 := by simpa [hq] using hby
      have hsc : strCells ⟨s.toArray⟩ = s.map bv := by simp [strCells]
      have hsz : (⟨s.toArray⟩ : ByteArray).size = s.length := by simp [ByteArray.size]
      have main : ∃ v' w', (Builtin.append_ #[t, ty'] o.type #[.slice A l c, sv s]).run P w = .ok v' w' ∧ w'.ownsRow 0 e 1 v' (l + s.length) (xs ++ s.map bv) ∧ w.grownBy w' (Value.slice A l c).ownBlock ∧
          (∀ g, v'.ownBlock = some g → (Value.slice A l c).ownBlock = some g ∨ w.heap.size ≤ g) := by
        have hown := Ow.own h hi how
        obtain ⟨v', w', hr, ho1, hgr, _⟩ := run_append_own_string (P := P) w 0 t ty' o.type e inf hu hut hq hz1 hms hb (.slice A l c) l xs hown ⟨s.toArray⟩ (by rw [hsz]; exact h63) (by rw [hsz]; exact hbytes) (Nat.zero_le _)
        rw [hsz, hsc] at ho1
        refine ⟨v', w', hr, ho1, hgr, fun g' hg' => ?_⟩
        rcases how.2 with ⟨rfl, rfl, rfl, _⟩ | ⟨g, rfl, h3, h4, h5⟩
        · have hx0 : xs = [] := List.eq_nil_of_length_eq_zero (by simpa using how.1)
          subst hx0
          obtain ⟨v2, w2, hr2, ho2, _, _⟩ := run_append_own_string (P := P) w w.heap.size t ty' o.type e inf hu hut hq hz1 hms hb (.slice none 0 0) 0 [] (World.ownsRow_nil w w.heap.size e 1) ⟨s.toArray⟩ (by rw [hsz]; exact h63) (by rw [hsz]; exact hbytes) (Nat.le_refl _)
          rw [hr] at hr2
          injection hr2 with e1 e2
          subst e1
          right
          rcases ho2.2 with ⟨e3, _⟩ | ⟨g2, cap, cur, e3, hb2, _⟩
          · rw [e3] at hg'; simp [Value.ownBlock] at hg'
          · rw [e3] at hg'; simp [Value.ownBlock] at hg'; omega
        · by_cases hroom : l + s.length ≤ c
          · have hr2 := run_append_room_string (P := P) w t ty' o.type e inf hu hut hq hms g l c (xs ++ sp).toArray (h.at hi) ⟨s.toArray⟩ (by rw [hsz]; exact hroom) (by rw [hsz]; simp at h3 ⊢; omega)
            rw [hr] at hr2
            injection hr2 with e1 e2
            subst e1
            simp [Value.ownBlock] at hg' ⊢
            exact .inl hg'
          · have holds : ∀ j u, xs[j]? = some u → w.cell? ((⟨g, 0, none⟩ : Addr).add j) = some u := hown.cells (g := g) rfl
            have hr2 := run_append_grow_string (P := P) w t ty' o.type e inf (.int .u8 0) hu hut hq hz1 ⟨g, 0, none⟩ l c xs (by rw [hms]; exact how.1) holds ⟨s.toArray⟩ (by rw [hsz]; omega) (by rw [hsz]; simp only [maxLen] at h63; omega) (by rw [hb, hsz]; exact growslice_fits (by omega) (by omega))
            rw [hr] at hr2
            injection hr2 with e1 e2
            subst e1
            simp [Value.ownBlock] at hg'
            right; omega
      obtain ⟨v', w', hrun, hown', hgr, hat⟩ := main
      have hform : ∃ A' c' sp', v' = .slice A' (l + s.length) c' ∧ Ow A' (l + s.length) c' 1 (xs ++ s.map bv) sp' ∧ (∀ g, blkOf A' = some g → w'.heap[g]? = some (Cl ((xs ++ s.map bv) ++ sp') e)) ∧ blkOf A' = v'.ownBlock := by
        obtain ⟨h2, h3⟩ := hown'
        rcases h3 with ⟨rfl, hl0⟩ | ⟨g, cap, cur, rfl, _, hg, hnc, hcm, hsz2, htk⟩
        · have hxe : xs ++ s.map bv = [] := List.eq_nil_of_length_eq_zero (by rw [h2, hl0])
          exact ⟨none, 0, [], by rw [hl0], ⟨h2, .inl ⟨rfl, hl0, rfl, rfl⟩⟩, fun g e => by simp [blkOf] at e, rfl⟩
        · refine ⟨some ⟨g, 0, none⟩, cap, cur.toList.drop ((l + s.length) * 1), rfl, ⟨h2, .inr ⟨g, rfl, ?_, hnc, hcm⟩⟩, fun g' e' => ?_, rfl⟩
          · rw [← htk, List.take_append_drop]; simpa using hsz2
          · simp [blkOf] at e'
            subst e'
            rw [← htk, List.take_append_drop]
            simpa using hg
      obtain ⟨A', c', sp', rfl, how', hblk, hob⟩ := hform
      have hob0 : (Value.slice A l c).ownBlock = blkOf A := by cases A <;> rfl
      have hob1 : (Value.slice A' (l + s.length) c').ownBlock = blkOf A' := by cases A' <;> rfl
      have hfr : Fr (blkOf A).toList w w' := ⟨hgr.os, hgr.tape, hgr.output, hgr.size, fun k hk hn => hgr.block k hk (by
        rw [hob0]
        intro e2
        exact hn (by rw [← e2]; simp)), run_drawn _ _ _ _ hrun⟩
      have hnew : ∀ g, blkOf A' = some g → blkOf A = some g ∨ w.heap.size ≤ g := fun g' hg' => by
        have := hat g' (by rw [hob1]; exact hg')
        rwa [hob0] at this
      refine a_run hd hn (v := .slice A' (l + s.length) c') (w' := w') (fun a r => ?_) (hK A' c' sp' w' how' (h.setAny hi (fun x hx => by simpa using hx) hfr fun g' hg' => ⟨hblk g' hg', hnew g' hg'⟩) hfr hnew)
      refine run_builtin2 ho (r.eval hx) (r.eval hy) fun cs => ?_
      simp only [builtin, Sem.run_bind, hrun, Result.andThen_ok]
      rfl
end
end Go.Proofs.Ytcpfhnfpokijaaa
