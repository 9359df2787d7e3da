/- append in place; clear of a slice. -/
import Derived.Test.YtngofknckkiboaaGreatDoorSq
import Derived.ArgAppend
namespace Go.Proofs.YtngofknckkiboaaGreatDoor
section
variable [Dfs] {P : Program} {n : Nat} {env : Env} {w : World} {o : Oper} {K : Env → World → Prop} {H : Heap}
/-- append where there is room: the same row, the same capacity. -/
theorem a_append_in {t ty' e m l c i sl sc g b ty : Nat} {x y : Operand} {ad : Addr} {cs news : List Value} (ho : o.op = .call { callee := .builtin .append, args := #[x, y], argTypes := #[t, ty'] }) (hty : ty' = t) {d : Nat} (hd : o.dst = some d) (hn : Nat.blt d n = true)
    (hx : env.ev x = some (.slice (some ⟨g, b, none⟩) l c)) (hy : env.ev y = some (.slice (some ad) sl sc)) (ht : elemSize P t = some (e, m))
    (h : Hp w H) (hi : H[i]? = some (some g, Cl cs ty)) (hnl : news.length = sl * m) (hsrc : ∀ j u, news[j]? = some u → w.cell? (ad.add j) = some u) (h1 : ∀ v ∈ news, v.oneCell' = true)
    (hroom : l + sl ≤ c) (hfit : b + l * m + news.length ≤ cs.length)
    (hK : ∀ w', Hp w' (H.set i (some g, Cl (cs.take (b + l * m) ++ news ++ cs.drop (b + l * m + news.length)) ty)) → Fr [g] w w' → K ((d, (.slice (some ⟨g, b, none⟩) (l + sl) c)) :: env) w') : Act1 P n env w o K := by
  subst hty
  obtain ⟨hu, hs⟩ := elemSize_spec ht
  have hg := h.at hi
  have hst := run_storeCells_at P g (b + l * m) ty news 0 cs.toArray w hg (by simpa using hfit) h1
  simp only [Nat.add_zero] at hst
  have hfc := run_firstCells_some (P := P) w m sl ad sl sc news hnl hsrc
  refine a_run hd hn (v := .slice (some ⟨g, b, none⟩) (l + sl) c) (w' := w.setRow g (cs.take (b + l * m) ++ news ++ cs.drop (b + l * m + news.length)).toArray) (fun a r => ?_) (hK _ (h.setAt hi (Fr.setRow w g _) (setRow_heap w g _ _ ty (0, 0) hg)) (Fr.setRow w g _))
  refine run_builtin2 ho (r.eval hx) (r.eval hy) fun q => ?_
  have hc : (Builtin.append_ #[ty', ty'] o.type #[.slice (some ⟨g, b, none⟩) l c, .slice (some ad) sl sc]).run P w = .ok (.slice (some ⟨g, b, none⟩) (l + sl) c) (w.setRow g (cs.take (b + l * m) ++ news ++ cs.drop (b + l * m + news.length)).toArray) := by
    simp at hst
    simp [Builtin.append_, run_underlying hu, run_sizeOf hs, Builtin.lenOf, hfc, hroom, Addr.add_mid, hst]
  simp only [builtin, Sem.run_bind, hc, Result.andThen_ok]
  rfl
omit [Dfs] in
theorem zeroCells_rep (z : List Value) (k : Nat) : (Builtin.zeroCells z.toArray k).toList = (List.replicate k z).flatten := by
  unfold Builtin.zeroCells
  rw [Array.toList_map, Array.toList_range]
  induction k with
  | zero => simp
  | succ k ih =>
    rw [List.replicate_succ', List.flatten_append, ← ih, List.flatten_cons, List.flatten_nil, List.append_nil]
    simp only [List.size_toArray, Nat.add_mul, Nat.one_mul, List.range_add, List.map_append, List.map_map]
    congr 1
    apply List.ext_getElem
    · simp
    · intro j h1 h2
      have hj : j < z.length := by simpa using h2
      have hm : (k * z.length + j) % z.length = j := by rw [Nat.add_comm, Nat.add_mul_mod_self_right, Nat.mod_eq_of_lt hj]
      simp [hm, hj]
theorem a_run0 {v : Value} {w' : World} (hd : o.dst = none) (hr : ∀ a, Rep n env a → (execOp a.eval o).run P w = .ok (.value v) w') (hk : K env w') : Act1 P n env w o K := fun a r => by
  unfold Oper.wp
  simp only [hr a r, Oper.upon]
  exact ⟨env, by rw [hd]; exact r, hk⟩
/-- clear of a slice. -/
theorem a_clear {t e m l c i g b ty : Nat} {x : Operand} {cs z : List Value} (ho : o.op = .call { callee := .builtin .clear, args := #[x], argTypes := #[t] }) (hd : o.dst = none)
    (hx : env.ev x = some (.slice (some ⟨g, b, none⟩) l c)) (ht : elemSize P t = some (e, m)) (hz : zeroCells P e = some z) (hzl : z.length = m) (hz1 : ∀ v ∈ z, v.oneCell' = true)
    (h : Hp w H) (hi : H[i]? = some (some g, Cl cs ty)) (hfit : b + l * m ≤ cs.length)
    (hK : ∀ w', Hp w' (H.set i (some g, Cl (cs.take b ++ (List.replicate l z).flatten ++ cs.drop (b + l * m)) ty)) → Fr [g] w w' → K env w') : Act1 P n env w o K := by
  obtain ⟨hu, hs⟩ := elemSize_spec ht
  have hg := h.at hi
  cases l with
  | zero =>
    refine a_run0 hd (v := .tuple #[]) (w' := w) (fun a r => ?_) (hK w (h.conv hi (by simp)) (Fr.refl _ _))
    refine run_builtin1 ho (r.eval hx) fun q => ?_
    have hc : (Builtin.clear_ #[t] o.type #[.slice (some ⟨g, b, none⟩) 0 c]).run P w = .ok (.tuple #[]) w := by simp [Builtin.clear_, run_underlying hu]
    simp only [builtin, Sem.run_bind, hc, Result.andThen_ok]
    rfl
  | succ l =>
  have hlen : (List.replicate (l + 1) z).flatten.length = (l + 1) * m := by simp [hzl]
  have hst := run_storeCells_at P g b ty (List.replicate (l + 1) z).flatten 0 cs.toArray w hg (by rw [hlen]; simpa using hfit) (fun v hv => by
    obtain ⟨r, hr, hv⟩ := List.mem_flatten.1 hv
    rw [List.eq_of_mem_replicate hr] at hv
    exact hz1 v hv)
  rw [hlen] at hst
  simp only [Nat.add_zero] at hst
  unfold Proofs.YtngofknckkiboaaGreatDoor.zeroCells at hz
  cases hq : P.info? e with
  | none => simp [hq] at hz
  | some inf =>
    cases hzz : inf.zero with
    | none => simp [hq, hzz] at hz
    | some z0 =>
      have hz' : z0.cells = z.toArray := by simp [hq, hzz] at hz; rw [← hz]
      refine a_run0 hd (v := .tuple #[]) (w' := w.setRow g (cs.take b ++ (List.replicate (l + 1) z).flatten ++ cs.drop (b + (l + 1) * m)).toArray) (fun a r => ?_) (hK _ (h.setAt hi (Fr.setRow w g _) (setRow_heap w g _ _ ty (0, 0) hg)) (Fr.setRow w g _))
      refine run_builtin1 ho (r.eval hx) fun q => ?_
      have hc : (Builtin.clear_ #[t] o.type #[.slice (some ⟨g, b, none⟩) (l + 1) c]).run P w = .ok (.tuple #[]) (w.setRow g (cs.take b ++ (List.replicate (l + 1) z).flatten ++ cs.drop (b + (l + 1) * m)).toArray) := by
        simp only [Builtin.clear_]
        simp [run_underlying hu, zeroValue, typeInfo, hq, hzz, hz', zeroCells_rep, hst]
      simp only [builtin, Sem.run_bind, hc, Result.andThen_ok]
      rfl
end
theorem fold_set (b : Nat) : ∀ (us pre rest : List Value) (s : Nat), pre.length = b + s → rest.length = us.length →
    (us.zipIdx s).foldl (fun cs (x : Value × Nat) => cs.setIfInBounds (b + x.2) x.1) (pre ++ rest).toArray = (pre ++ us).toArray
  | [], pre, rest, s, _, hr => by
    obtain rfl : rest = [] := List.eq_nil_of_length_eq_zero (by simpa using hr)
    rfl
  | u :: us, pre, [], s, _, hr => by simp at hr
  | u :: us, pre, r :: rest, s, hp, hr => by
    have ih := fold_set b us (pre ++ [u]) rest (s + 1) (by simp; omega) (by simpa using hr)
    simp only [List.zipIdx_cons, List.foldl_cons]
    have e : (pre ++ r :: rest).toArray.setIfInBounds (b + s) u = (pre ++ [u] ++ rest).toArray := by
      rw [← hp]; simp
    rw [e, ih]
    simp
section
variable [Dfs] {P : Program} {n : Nat} {env : Env} {w : World} {o : Oper} {K : Env → World → Prop} {H : Heap}
/-- []T{x}: one struct. -/
theorem a_bsls {t e m : Nat} {x : Operand} {us z : List Value} (ho : o.op = .buildSlice t 1 #[(0, x)]) {d : Nat} (hd : o.dst = some d) (hn : Nat.blt d n = true) (hx : env.ev x = some (.agg us.toArray)) (ht : elemSize P t = some (e, m)) (hz : zeroCells P e = some z) (hul : us.length = m)
    (hm2 : m ≤ 1000) (h : Hp w H)
    (hK : ∀ g w', Hp w' (H ++ [(some g, Cl us e)]) → Fr [] w w' → w.heap.size ≤ g → K ((d, (.slice (some ⟨g, 0, none⟩) 1 1)) :: env) w') : Act1 P n env w o K := by
  obtain ⟨hu, hs⟩ := elemSize_spec ht
  unfold Proofs.YtngofknckkiboaaGreatDoor.zeroCells at hz
  cases hq : P.info? e with
  | none => simp [hq] at hz
  | some inf =>
    cases hzz : inf.zero with
    | none => simp [hq, hzz] at hz
    | some z0 =>
      refine a_run hd hn (v := .slice (some ⟨w.heap.size, 0, none⟩) 1 1) (w' := w.alloc (.cells us.toArray e)) (fun a r => ?_) (hK _ _ (h.alloc _) (Fr.alloc w _) (Nat.le_refl _))
      have hrun : (Instr.buildSlice t 1 #[(0, Value.agg us.toArray)]).run P w = .ok (.slice (some ⟨w.heap.size, 0, none⟩) 1 1) (w.alloc (.cells us.toArray e)) := by
        refine run_bsl _ hu hs (by omega) z0 (by simp [zeroValue, typeInfo, hq, hzz]) us.toArray ?_
        have key : ∀ zs : Array Value, zs.size = m → Instr.fill (fun i => some (i * m, m)) zs [(0, Value.agg us.toArray)] = some us.toArray := fun zs hzs => by
          simp only [Instr.fill]
          have hc : (Value.agg us.toArray).cells = us.toArray := rfl
          rw [hc, if_neg (by simp [hul, hzs])]
          have hf := fold_set (0 * m) us [] zs.toList 0 (by simp) (by simp [hzs, hul])
          simp only [List.nil_append, Array.toArray_toList] at hf
          refine congrArg some (Eq.trans ?_ hf)
          simp
        exact key _ (by simp)
      unfold execOp
      simp only [ho, List.map_toArray, List.map_cons, List.map_nil, r.eval hx, Sem.run_bind, hrun, Result.andThen_ok]
      rfl
end
/-- Where a cut begins. -/
def cutAd (a : Addr) (c p m : Nat) : Addr := if c = p then a else a.add (p * m)
theorem cutAd_in {g b c p m : Nat} (h : p < c) : cutAd ⟨g, b, none⟩ c p m = ⟨g, b + p * m, none⟩ := by
  unfold cutAd; rw [if_neg (by omega), Addr.add_mid]
section
variable [Dfs] {P : Program} {n : Nat} {env : Env} {S : World → Prop} {o : Oper}
theorem y_cutlS {t e m l c : Nat} {ad : Addr} {x : Operand} {lo hi : Option Operand} {p q : Int} (ho : o.op = .slice t x lo hi none) (hx : env.ev x = some (.slice (some ad) l c)) (ht : elemSize P t = some (e, m)) (hlo : cutLo env lo = some p) (hhi : cutHi env l hi = some q)
    (h0 : 0 ≤ p) (h1 : p ≤ q) (h2 : q ≤ c) (hlc : l ≤ c) : Yld P n env S o (.slice (some (cutAd ad c p.toNat m)) (q.toNat - p.toNat) (c - p.toNat)) := by
  have := y_cutl (P := P) (n := n) (S := S) ho hx ht hlo hhi h0 h1 h2 hlc
  have e1 : (if c = p.toNat then some ad else (some ad).map (·.add (p.toNat * m))) = some (cutAd ad c p.toNat m) := by unfold cutAd; split <;> rfl
  rw [e1] at this
  exact this
theorem y_cut3 {t e m l c : Nat} {A : Option Addr} {x lo hi mx : Operand} {p q r : Int} {kp kq kr : IntKind} (ho : o.op = .slice t x (some lo) (some hi) (some mx)) (hx : env.ev x = some (.slice A l c)) (ht : elemSize P t = some (e, m)) (hlo : env.ev lo = some (.int kp p)) (hhi : env.ev hi = some (.int kq q)) (hmx : env.ev mx = some (.int kr r))
    (h0 : 0 ≤ p) (h1 : p ≤ q) (h2 : q ≤ r) (h3 : r ≤ c) : Yld P n env S o (.slice (if r.toNat = p.toNat then A else A.map (·.add (p.toNat * m))) (q.toNat - p.toNat) (r.toNat - p.toNat)) := fun a rp w _ => by
  obtain ⟨hu, hs⟩ := elemSize_spec ht
  have hb : (Instr.sliceBounds true l c (some (a.eval lo)) (some (a.eval hi)) (some (a.eval mx))).run P w = .ok (p.toNat, q.toNat, r.toNat) w := by
    have e1 : 0 ≤ q ∧ q ≤ (r.toNat : Int) := by omega
    have e2 : 0 ≤ p ∧ p ≤ (q.toNat : Int) := by omega
    have e3 : 0 ≤ r ∧ r ≤ (c : Int) := by omega
    simp [Instr.sliceBounds, Instr.sliceBound, rp.eval hlo, rp.eval hhi, rp.eval hmx, asIntOf, e1, e2, e3]
    rw [if_pos (by omega), if_pos (by omega)]
  unfold execOp
  simp [ho, rp.eval hx, Instr.sliceAt, Instr.slice, run_underlying hu, hb, run_sizeOf hs]
end
end Go.Proofs.YtngofknckkiboaaGreatDoor
