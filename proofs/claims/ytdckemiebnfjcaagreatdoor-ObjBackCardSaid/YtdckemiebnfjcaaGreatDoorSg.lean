/- Regions that draw their order, step by step, whose last operation changes what the others looked at; two or three acting operations may come in any order. -/
import Derived.Test.YtdckemiebnfjcaaGreatDoorSl
import Derived.IntWalk
import Derived.Laws.StructEq
import Derived.ArgAppend
section
namespace Go.Proofs.YtdckemiebnfjcaaGreatDoor
open Go.RowKit
theorem run_builtin2 {P : Program} {o : Oper} {v : Value} {b : Builtin} {x y : Operand} {t t' : Nat} {u u' : Value} {a : Act} {w w' : World} (ho : o.op = .call { callee := .builtin b, args := #[x, y], argTypes := #[t, t'] }) (hx : a.eval x = u) (hy : a.eval y = u')
    (h : ∀ cs, (builtin b #[t, t'] o.type cs #[u, u']).run P w = .ok (.value v) w') : (execOp a.eval o).run P w = .ok (.value v) w' := by
  unfold execOp
  simp only [ho, resolve, List.map_toArray, List.map_cons, List.map_nil, hx, hy, Sem.run_bind, Sem.run_pure, Result.andThen_ok, invoke, h]
theorem run_loadCells_range {P : Program} {w : World} {g k : Nat} {vs : List Value} (h : w.rangeAt g k vs) : (loadCells ⟨g, k, none⟩ vs.length).run P w = .ok vs.toArray w :=
  run_loadCells_list w _ vs fun j v hj => by rw [Addr.add_mid]; exact h j v hj
section
variable [Dfs] {P : Program} {n : Nat} {env : Env} {w : World} {o : Oper} {K : Env → World → Prop} {H : Heap}
theorem a_copy {t t' e m g b dl dc g2 b2 sl sc i ty k : Nat} {x y : Operand} {cs vs : List Value} (ho : o.op = .call { callee := .builtin .copy, args := #[x, y], argTypes := #[t, t'] }) {d : Nat} (hd : o.dst = some d) (hn : Nat.blt d n = true)
    (hx : env.ev x = some (.slice (some ⟨g, b, none⟩) dl dc)) (hy : env.ev y = some (.slice (some ⟨g2, b2, none⟩) sl sc)) (ht : elemSize P t = some (e, m)) (hk : Nat.min sl dl = k)
    (hvs : w.rangeAt g2 b2 vs) (hl : vs.length = k * m) (h1 : ∀ v ∈ vs, v.oneCell' = true) (h : Hp w H) (hi : H[i]? = some (some g, Cl cs ty)) (hfit : b + vs.length ≤ cs.length)
    (hK : ∀ w', Hp w' (H.set i (some g, Cl (cs.take b ++ vs ++ cs.drop (b + vs.length)) ty)) → Fr [g] w w' → w'.heap.size = w.heap.size → K ((d, (.int .i64 k)) :: env) w') : Act1 P n env w o K := by
  obtain ⟨hu, hs⟩ := elemSize_spec ht
  have hg := h.at hi
  have hst := run_storeCells_at P g b ty vs 0 cs.toArray w hg (by simpa using hfit) h1
  simp only [Nat.add_zero] at hst
  have hld := run_loadCells_range (P := P) hvs
  rw [hl] at hld
  refine a_run hd hn (v := .int .i64 k) (w' := w.setRow g (cs.take b ++ vs ++ cs.drop (b + vs.length)).toArray) (fun a r => ?_) (hK _ (h.setAt hi (Fr.setRow w g _) (setRow_heap w g _ _ ty (0, 0) hg)) (Fr.setRow w g _) (by simp))
  refine run_builtin2 ho (r.eval hx) (r.eval hy) fun c => ?_
  have hc : (Builtin.copy_ #[t, t'] o.type #[.slice (some ⟨g, b, none⟩) dl dc, .slice (some ⟨g2, b2, none⟩) sl sc]).run P w = .ok (goInt k) (w.setRow g (cs.take b ++ vs ++ cs.drop (b + vs.length)).toArray) := by
    simp [Builtin.copy_, run_underlying hu, Builtin.lenOf, Builtin.firstCells, run_sizeOf hs, hk, hld]
    simp at hst
    rw [hst]
    simp
  simp only [builtin, Sem.run_bind, hc, Result.andThen_ok]
  rfl
omit [Dfs] in
theorem madeCells_eq (z : List Value) (c m : Nat) (hz : z.length = m) : madeCells z.toArray (c * m) = ((List.replicate c z).flatten).toArray := by
  apply Array.ext'
  unfold madeCells
  simp only [Array.toList_map, Array.toList_range, List.size_toArray]
  apply List.ext_getElem?
  intro j
  have hL : (List.replicate c z).flatten.length = c * m := by simp [hz]
  rcases Nat.lt_or_ge j (c * m) with hj | hj
  · have hm : 0 < m := by rcases Nat.eq_zero_or_pos m with h | h; · subst h; omega
                          · exact h
    rw [List.getElem?_map, List.getElem?_range hj]
    have key : ∀ (c j : Nat), j < c * m → (List.replicate c z).flatten[j]? = z[j % m]? := by
      intro c
      induction c with
      | zero => intro j hj; omega
      | succ c ih =>
        intro j hj
        rw [List.replicate_succ, List.flatten_cons]
        rcases Nat.lt_or_ge j m with h | h
        · rw [List.getElem?_append_left (by omega), Nat.mod_eq_of_lt h]
        · rw [List.getElem?_append_right (by omega), hz, ih (j - m) (by rw [Nat.succ_mul] at hj; omega)]
          congr 1
          rw [Nat.mod_eq_sub_mod h]
    rw [key c j hj, hz]
    have hlt : j % m < z.length := by rw [hz]; exact Nat.mod_lt _ hm
    simp [hlt]
  · rw [List.getElem?_eq_none (by simp; omega), List.getElem?_eq_none (by omega)]
end
theorem run_bsl {P : Program} {w : World} {t e len m : Nat} (pp : Array (Nat × Value)) (hu : P.underlying t = some (.slice e)) (hs : (P.info? e).map (·.size) = some m) (hbig : len * m ≤ 2 ^ 24) (z0 : Value) (hz : (zeroValue e).run P w = .ok z0 w) (cells : Array Value)
    (hf : Instr.fill (fun i => some (i * m, m)) ((Array.range (len * m)).map ((if len * m = 0 then (#[] : Array Value) else z0.cells)[· % (if len * m = 0 then (#[] : Array Value) else z0.cells).size]!)) pp.toList = some cells) :
    (Instr.buildSlice t len pp).run P w = .ok (.slice (some ⟨w.heap.size, 0, none⟩) len len) (w.alloc (.cells cells e)) := by
  unfold Instr.buildSlice
  simp only [Sem.run_bind, run_underlying hu, Result.andThen_ok, run_sizeOf hs]
  rw [if_neg (by omega)]
  by_cases h0 : len * m = 0
  · simp only [h0, if_true] at hf ⊢
    simp only [Sem.run_bind, Sem.run_pure, Result.andThen_ok]
    rw [hf]
    simp [newRow]
  · simp only [h0, if_false] at hf ⊢
    simp only [Sem.run_bind, hz, Sem.run_pure, Result.andThen_ok]
    rw [hf]
    simp [newRow]
section
variable [Dfs] {P : Program} {n : Nat} {env : Env} {w : World} {o : Oper} {K : Env → World → Prop} {H : Heap}
theorem a_bsl0 {t e m : Nat} {z : List Value} {d : Nat} (ho : o.op = .buildSlice t 0 #[]) (hd : o.dst = some d) (hn : Nat.blt d n = true) (ht : elemSize P t = some (e, m)) (hz : zeroCells P e = some z) (h : Hp w H)
    (hK : ∀ g w', Hp w' (H ++ [(some g, Cl [] e)]) → Fr [] w w' → w.heap.size ≤ g → K ((d, .slice (some ⟨g, 0, none⟩) 0 0) :: env) w') : Act1 P n env w o K := by
  obtain ⟨hu, hs⟩ := elemSize_spec ht
  unfold zeroCells at hz
  cases hq : P.info? e with
  | none => simp [hq] at hz
  | some inf =>
    cases hzz : inf.zero with
    | none => simp [hq, hzz] at hz
    | some z0 =>
      refine a_run hd hn (v := .slice (some ⟨w.heap.size, 0, none⟩) 0 0) (w' := w.alloc (.cells #[] e)) (fun a r => ?_) (hK _ _ (h.alloc _) (Fr.alloc w _) (Nat.le_refl _))
      have hrun := run_bsl (P := P) (w := w) (len := 0) (#[] : Array (Nat × Value)) hu hs (by omega) z0 (by simp [zeroValue, typeInfo, hq, hzz]) #[] (by simp [Instr.fill])
      unfold execOp
      simp only [ho, List.map_toArray, List.map_nil, Sem.run_bind, hrun, Result.andThen_ok]
      rfl
theorem a_bsl {t e len : Nat} {ps : List (Nat × Operand)} {vs z : List Value} (ho : o.op = .buildSlice t len ps.toArray) {d : Nat} (hd : o.dst = some d) (hn : Nat.blt d n = true) (hx : env.evs (ps.map (·.2)) = some vs) (hp : ps.map (·.1) = List.range len) (ht : elemSize P t = some (e, 1)) (hz : zeroCells P e = some z) (hzl : z.length = 1)
    (hlen : len ≤ 1000) (h1 : ∀ v ∈ vs, v.cells = #[v]) (h : Hp w H)
    (hK : ∀ g w', Hp w' (H ++ [(some g, Cl vs e)]) → Fr [] w w' → w.heap.size ≤ g → K ((d, (.slice (some ⟨g, 0, none⟩) len len)) :: env) w') : Act1 P n env w o K := by
  obtain ⟨hu, hs⟩ := elemSize_spec ht
  have hvl : vs.length = len := by
    have h1 : ∀ (xs : List Operand) (us : List Value), env.evs xs = some us → us.length = xs.length := by
      intro xs
      induction xs with
      | nil => intro us hu; simp [Env.evs] at hu; subst hu; rfl
      | cons a b ih =>
        intro us hu
        simp only [Env.evs] at hu
        split at hu
        · rename_i v us' _ h2
          simp only [Option.some.injEq] at hu
          subst hu
          simp [ih us' h2]
        · cases hu
    have h2 := h1 _ _ hx
    have h3 : (ps.map (·.1)).length = len := by rw [hp]; simp
    simp at h2 h3
    omega
  obtain ⟨zv, rfl⟩ : ∃ zv, z = [zv] := by
    match z, hzl with
    | [zv], _ => exact ⟨zv, rfl⟩
  have key : ∀ (us : List Value) (j : Nat) (pre : List Value), (∀ v ∈ us, v.cells = #[v]) → pre.length = j →
      Instr.fill (fun i => some (i * 1, 1)) (pre ++ List.replicate us.length zv).toArray ((List.range' j us.length).zip us) = some (pre ++ us).toArray := by
    intro us
    induction us with
    | nil => intro j pre _ _; simp [Instr.fill]
    | cons v us ih =>
      intro j pre hone hpre
      simp only [List.length_cons, List.range'_succ, List.zip_cons_cons]
      unfold Instr.fill
      have hv := hone v (by simp)
      simp only [hv]
      rw [if_neg (by simp; omega)]
      have e : (#[v].zipIdx.foldl (fun cs x => match x with | (c, k) => cs.setIfInBounds (j * 1 + k) c) (pre ++ List.replicate (us.length + 1) zv).toArray) = ((pre ++ [v]) ++ List.replicate us.length zv).toArray := by
        subst hpre
        simp [List.replicate_succ, Array.zipIdx]
      rw [e, ih (j + 1) (pre ++ [v]) (fun u hu => hone u (by simp [hu])) (by simp [hpre])]
      simp
  have hk := key vs 0 [] h1 rfl
  rw [hvl] at hk
  have hparts : ∀ a, Rep n env a → (ps.toArray.map fun (i, x) => (i, a.eval x)).toList = (List.range' 0 len).zip vs := fun a r => by
    rw [← List.range_eq_range', ← hp, ← r.evals hx]
    simp only [List.map_toArray, List.map_map]
    clear ho hx hp hk hvl
    induction ps with
    | nil => rfl
    | cons p ps ih => obtain ⟨i, x⟩ := p; simpa using ih
  have hzero : ∀ w : World, (zeroValue e).run P w = .ok zv w ∧ zv.cells = #[zv] ∨ True := fun _ => .inr trivial
  clear hzero
  unfold zeroCells at hz
  cases hq : P.info? e with
  | none => simp [hq] at hz
  | some inf =>
    cases hzz : inf.zero with
    | none => simp [hq, hzz] at hz
    | some z0 =>
      have hz' : z0.cells = #[zv] := by
        have : z0.cells.toList = [zv] := by simpa [hq, hzz] using hz
        rw [← this]
      have hm : inf.size = 1 := by simpa [hq] using hs
      refine a_run hd hn (v := .slice (some ⟨w.heap.size, 0, none⟩) len len) (w' := w.alloc (.cells vs.toArray e)) (fun a r => ?_) (hK _ _ (h.alloc _) (Fr.alloc w _) (Nat.le_refl _))
      have hrep : ∀ zz : Array Value, (0 < len → zz = #[zv]) → ((Array.range (len * 1)).map (zz[· % zz.size]!)) = (List.replicate len zv).toArray := fun zz hzz' => by
        apply Array.ext'
        rw [Array.toList_map, Array.toList_range]
        apply List.ext_getElem
        · simp
        · intro j h1 h2
          have : 0 < len := by simp at h1; omega
          have e := hzz' this
          subst e
          simp [Nat.mod_one]
      have hrun : (Instr.buildSlice t len (ps.toArray.map fun (i, x) => (i, a.eval x))).run P w = .ok (.slice (some ⟨w.heap.size, 0, none⟩) len len) (w.alloc (.cells vs.toArray e)) := by
        have hp2 := hparts a r
        generalize (ps.toArray.map fun (i, x) => (i, a.eval x)) = pp at hp2 ⊢
        refine run_bsl pp hu hs (by omega) z0 (by simp [zeroValue, typeInfo, hq, hzz]) vs.toArray ?_
        rw [hp2, hrep _ (fun h0 => by rw [if_neg (by omega)]; exact hz')]
        simpa using hk
      unfold execOp
      simp only [ho, Sem.run_bind, hrun, Result.andThen_ok]
      rfl
end
section
variable [Dfs] {P : Program} {n : Nat} {env : Env} {S : World → Prop} {o : Oper}
theorem y_cvbs {src dst e g b l c : Nat} {x : Operand} {xs : List Int} (ho : o.op = .convert src dst x) (hx : env.ev x = some (.slice (some ⟨g, b, none⟩) l c)) (hs : P.underlying src = some (.slice e)) (he : P.underlying e = some (.int .u8)) (hd : P.underlying dst = some .string)
    (hl : xs.length = l) (hc : ∀ w, S w → w.rangeAt g b (xs.map (Value.int .u8))) : Yld P n env S o (sv (xs.map fun q => UInt8.ofNat q.toNat)) := fun a r w hS => by
  have := run_convert_bytes_arg (P := P) w src e hs he g b l c xs hl (fun i hi => hc w hS i _ (by
    have hi' : i < xs.length := by omega
    simp [List.getElem?_eq_getElem hi'])) dst hd
  unfold execOp
  simp only [ho, r.eval hx, Sem.run_bind, this, Result.andThen_ok]
  rfl
end
def Ow (A : Option Addr) (l c m : Nat) (xs sp : List Value) : Prop :=
  xs.length = l * m ∧ ((A = none ∧ l = 0 ∧ c = 0 ∧ sp = []) ∨ (∃ g, A = some ⟨g, 0, none⟩ ∧ (xs ++ sp).length = c * m ∧ l ≤ c ∧ c ≤ maxLen))
def blkOf (A : Option Addr) : Option Nat := A.map (·.block)
theorem Ow.nil (m : Nat) : Ow none 0 0 m [] [] := ⟨by simp, .inl ⟨rfl, rfl, rfl, rfl⟩⟩
theorem Ow.some_ {A : Option Addr} {l c m : Nat} {xs sp : List Value} (h : Ow A l c m xs sp) (hl : 0 < l) : ∃ g, A = some ⟨g, 0, none⟩ := by
  rcases h.2 with ⟨_, h0, _⟩ | ⟨g, h1, _⟩
  · omega
  · exact ⟨g, h1⟩
theorem Ow.own {w : World} {H : Heap} {A : Option Addr} {l c m i e : Nat} {xs sp : List Value} (h : Hp w H) (hi : H[i]? = some (blkOf A, Cl (xs ++ sp) e)) (ho : Ow A l c m xs sp) : w.ownsRow 0 e m (.slice A l c) l xs := by
  obtain ⟨h1, h2⟩ := ho
  refine ⟨h1, ?_⟩
  rcases h2 with ⟨rfl, rfl, rfl, _⟩ | ⟨g, rfl, h3, h4, h5⟩
  · exact .inl ⟨rfl, rfl⟩
  · exact .inr ⟨g, c, (xs ++ sp).toArray, rfl, Nat.zero_le _, h.at hi, h4, h5, by simpa using h3, by simp [← h1]⟩
theorem src_none {w : World} {news : List Value} : ∀ ad : Addr, (none : Option Addr) = some ad → ∀ j u, news[j]? = some u → w.cell? (ad.add j) = some u := fun _ e => by cases e
section
variable [Dfs] {P : Program} {n : Nat} {env : Env} {w : World} {o : Oper} {K : Env → World → Prop} {H : Heap}
theorem a_append {t ty' e m by' l c i sl sc : Nat} {x y : Operand} {A B : Option Addr} {xs sp news z : List Value} (ho : o.op = .call { callee := .builtin .append, args := #[x, y], argTypes := #[t, ty'] }) (hty : ty' = t) {d : Nat} (hd : o.dst = some d) (hn : Nat.blt d n = true)
    (hx : env.ev x = some (.slice A l c)) (hy : env.ev y = some (.slice B sl sc)) (ht : elemSize P t = some (e, m)) (hz : zeroCells P e = some z) (hzl : z.length = m) (hby : (P.info? e).map (·.bytes) = some by') (hm : 0 < m)
    (how : Ow A l c m xs sp) (h : Hp w H) (hi : H[i]? = some (blkOf A, Cl (xs ++ sp) e)) (hnl : news.length = sl * m) (hsrc : ∀ ad, B = some ad → ∀ j u, news[j]? = some u → w.cell? (ad.add j) = some u) (hB : B = none → sl = 0) (h1 : ∀ v ∈ news, v.oneCell' = true)
    (h63 : l + sl ≤ maxLen) (hbytes : (l + sl) * by' ≤ 140737488355328)
    (hK : ∀ A' c' sp' w', Ow A' (l + sl) c' m (xs ++ news) sp' → Hp w' (H.set i (blkOf A', Cl ((xs ++ news) ++ sp') e)) → Fr (blkOf A).toList w w' → (∀ g, blkOf A' = some g → blkOf A = some g ∨ w.heap.size ≤ g) → K ((d, (.slice A' (l + sl) c')) :: env) w') : Act1 P n env w o K := by
  subst hty
  obtain ⟨hu, hs⟩ := elemSize_spec ht
  have hown := Ow.own h hi how
  unfold zeroCells at hz
  cases hq : P.info? e with
  | none => simp [hq] at hz
  | some inf =>
    cases hzz : inf.zero with
    | none => simp [hq, hzz] at hz
    | some z0 =>
      have hz' : z0.cells = z.toArray := by simp [hq, hzz] at hz; rw [← hz]
      have hms : inf.size = m := by simpa [hq] using hs
      have hb : inf.bytes = by' := by simpa [hq] using hby
      have main : ∃ v' w', (Builtin.append_ #[ty', ty'] o.type #[.slice A l c, .slice B sl sc]).run P w = .ok v' w' ∧ w'.ownsRow 0 e m v' (l + sl) (xs ++ news) ∧ w.grownBy w' (Value.slice A l c).ownBlock ∧
          (v'.ownBlock = (Value.slice A l c).ownBlock ∨ v'.ownBlock = some w.heap.size) := by
        cases B with
        | some ad =>
          obtain ⟨v', w', hr, ho1, hgr, _, hat⟩ := run_append_own_at (P := P) w 0 ty' o.type e inf z0 m by' hu hq hzz hms hb (by rw [hz']; simpa using hzl) hm (.slice A l c) l xs hown ad sl sc news hnl (hsrc ad rfl) h1 h63 hbytes (Nat.zero_le _)
          exact ⟨v', w', hr, ho1, hgr, hat⟩
        | none =>
          have hsl := hB rfl
          subst hsl
          have hn : news = [] := List.eq_nil_of_length_eq_zero (by simpa using hnl)
          subst hn
          refine ⟨.slice A l c, w, ?_, by simpa using hown, World.grownBy.refl w _, .inl rfl⟩
          rcases hown.2 with ⟨hv, _⟩ | ⟨g, cap, cur, hv, _, _, hnc, _⟩
          · rw [hv]; simp [Builtin.append_, run_underlying hu, sizeOf, typeInfo, hq, Builtin.lenOf, Builtin.firstCells]
          · rw [hv]; simp [Builtin.append_, run_underlying hu, sizeOf, typeInfo, hq, Builtin.lenOf, Builtin.firstCells, hnc, storeCells]
      obtain ⟨v', w', hrun, hown', hgr, hat⟩ := main
      have hform : ∃ A' c' sp', v' = .slice A' (l + sl) c' ∧ Ow A' (l + sl) c' m (xs ++ news) sp' ∧ (∀ g, blkOf A' = some g → w'.heap[g]? = some (Cl ((xs ++ news) ++ sp') e)) ∧ blkOf A' = v'.ownBlock := by
        obtain ⟨h2, h3⟩ := hown'
        rcases h3 with ⟨rfl, hl0⟩ | ⟨g, cap, cur, rfl, _, hg, hnc, hcm, hsz, htk⟩
        · have hxe : xs ++ news = [] := List.eq_nil_of_length_eq_zero (by rw [h2, hl0]; simp)
          exact ⟨none, 0, [], by rw [hl0], ⟨h2, .inl ⟨rfl, hl0, rfl, rfl⟩⟩, fun g e => by simp [blkOf] at e, rfl⟩
        · refine ⟨some ⟨g, 0, none⟩, cap, cur.toList.drop ((l + sl) * m), rfl, ⟨h2, .inr ⟨g, rfl, ?_, hnc, hcm⟩⟩, fun g' e' => ?_, rfl⟩
          · rw [← htk, List.take_append_drop]; simpa using hsz
          · simp [blkOf] at e'
            subst e'
            rw [← htk, List.take_append_drop]
            simpa using hg
      obtain ⟨A', c', sp', rfl, how', hblk, hob⟩ := hform
      have hob0 : (Value.slice A l c).ownBlock = blkOf A := by cases A <;> rfl
      have hob1 : (Value.slice A' (l + sl) c').ownBlock = blkOf A' := by cases A' <;> rfl
      have hfr : Fr (blkOf A).toList w w' := ⟨hgr.os, hgr.tape, hgr.output, hgr.size, fun k hk hn => hgr.block k hk (by
        rw [hob0]
        intro e2
        exact hn (by rw [← e2]; simp)), run_drawn _ _ _ _ hrun⟩
      have hnew : ∀ g, blkOf A' = some g → blkOf A = some g ∨ w.heap.size ≤ g := fun g' hg' => by
        rw [hob1, hob0] at hat
        rcases hat with e1 | e1
        · exact .inl (by rw [← e1]; exact hg')
        · rw [hg'] at e1
          injection e1 with e1
          exact .inr (by omega)
      refine a_run hd hn (v := .slice A' (l + sl) c') (w' := w') (fun a r => ?_) (hK A' c' sp' w' how' (h.setAny hi (fun x hx => by simpa using hx) hfr fun g' hg' => ⟨hblk g' hg', hnew g' hg'⟩) hfr hnew)
      refine run_builtin2 ho (r.eval hx) (r.eval hy) fun cs => ?_
      simp only [builtin, Sem.run_bind, hrun, Result.andThen_ok]
      rfl
end
end Go.Proofs.YtdckemiebnfjcaaGreatDoor
end

section
namespace Go.Proofs.YtdckemiebnfjcaaGreatDoor
open Go.RowKit
theorem wf_i64 {p : Int} (h : -9223372036854775808 ≤ p ∧ p ≤ 9223372036854775807) : IntKind.i64.wrap p = p := by rw [IntKind.wrap_i64]; omega
theorem wf_u64 {p : Int} (h : 0 ≤ p ∧ p ≤ 18446744073709551615) : IntKind.u64.wrap p = p := by rw [IntKind.wrap_u64]; omega
theorem wf_u8 {p : Int} (h : 0 ≤ p ∧ p ≤ 255) : IntKind.u8.wrap p = p := by rw [IntKind.wrap_u8]; omega
theorem wm_u8 {p : Int} : IntKind.u8.wrap p = p % 256 := IntKind.wrap_u8 p
theorem wm_u32 {p : Int} : IntKind.u32.wrap p = p % 4294967296 := IntKind.wrap_u32 p
theorem wm_u64 {p : Int} : IntKind.u64.wrap p = p % 18446744073709551616 := IntKind.wrap_u64 p
theorem w_addN {a b : Nat} (h : a + b ≤ 9223372036854775807) : IntKind.i64.wrap ((a : Int) + (b : Int)) = ((a + b : Nat) : Int) := by rw [IntKind.wrap_i64]; omega
theorem w_subN {a b : Nat} (h : b ≤ a) (h' : a ≤ 9223372036854775807) : IntKind.i64.wrap ((a : Int) - (b : Int)) = ((a - b : Nat) : Int) := by rw [IntKind.wrap_i64]; omega
section
variable [Dfs] {P : Program} {n : Nat} {Q : EQ} {env : Env} {w : World} {ops : Array Oper}
omit [Dfs] in
theorem get_swap {env : Env} {s : Nat} {u : Value} (hs : env.get s = some u) : ∀ k v, Env.get ((s, u) :: env) k = some v → env.get k = some v := fun k v h => by
  unfold Env.get at h
  by_cases e : s = k
  · subst e
    simp at h
    rw [hs, h]
  · rw [beq_ne e] at h
    exact h
theorem Ls_bool {l : List Oper} {b : Bool} (s : Nat) (hs : env.get s = some (.bool b)) (h1 : b = true → Ls P n ops Q l ((s, .bool true) :: env) w) (h2 : b = false → Ls P n ops Q l ((s, .bool false) :: env) w) : Ls P n ops Q l env w := fun hnd a r => by
  cases b
  · exact h2 rfl hnd a ⟨r.size, r.defers, fun k v hk => r.get k v (get_swap hs k v hk)⟩
  · exact h1 rfl hnd a ⟨r.size, r.defers, fun k v hk => r.get k v (get_swap hs k v hk)⟩
theorem Pl_bool {S : World → Prop} {b : Bool} {l : List (Bool × Nat)} (s : Nat) (hs : env.get s = some (.bool b)) (h1 : b = true → Pl P n ops S (Qs Q) l ((s, .bool true) :: env) w) (h2 : b = false → Pl P n ops S (Qs Q) l ((s, .bool false) :: env) w) : Pl P n ops S (Qs Q) l env w := by
  cases b
  · exact Pl_mono l _ _ w (get_swap hs) (h2 rfl)
  · exact Pl_mono l _ _ w (get_swap hs) (h1 rfl)
theorem Wp_weakS {c : Code} (e' : Env) (hl : ∀ k v, e'.get k = some v → env.get k = some v) (h : Wp P n c Q e' w) : Wp P n c Q env w := fun a r => h a ⟨r.size, r.defers, fun k v hk => r.get k v (hl k v hk)⟩
def WpR (P : Program) (n : Nat) (c : Code) (Q : EQ) (N : Nat) (env : Env) (w : World) : Prop := ∀ a, Rep n env a → Code.roundsIn (Fw Dfs.ro) 0 P c (Lf n Q) N a w
theorem Wp_unroll {c : Code} (N : Nat) (h : WpR P n c Q N env w) : Wp P n (.loop c) Q env w := fun a r => wpIn_loop_rounds N (h a r)
theorem WpR_succ {c : Code} {N : Nat} (h : Wp P n c (Th (WpR P n c Q N) Q) env w) : WpR P n c Q (N + 1) env w := fun a r => by
  rw [roundsIn_succ]
  refine Code.wpIn_mono (fun e a' w' hq => ?_) (h a r)
  obtain ⟨env', r', q⟩ := hq
  cases e with
  | normal => exact q a' r'
  | _ => exact ⟨env', r', q⟩
theorem Wp_loopE {c : Code} (I : Nat → Env → World → Prop) (m0 : Nat) (e0 : Env) (hle : Env.Le e0 env) (h0 : I m0 e0 w)
    (h : ∀ m e w, I m e w → Wp P n c (Th (fun env' w' => ∃ m' e', m' < m ∧ Env.Le e' env' ∧ I m' e' w') Q) e w) : Wp P n (.loop c) Q env w :=
  Wp_weak e0 hle (Wp_loop (fun m e w => ∃ e' : Env, (∀ k v, e'.get k = some v → e.get k = some v) ∧ I m e' w) m0 ⟨e0, fun _ _ h => h, h0⟩ fun m e w ⟨e', hl, hi⟩ =>
    Wp_weakS e' hl (Wp_mono (h m e' w hi) fun x v u hq => by
      cases x <;> first | exact hq | (obtain ⟨m', e2, h1, h2, h3⟩ := hq; exact ⟨m', h1, e2, fun k v hk => h2.get k v hk, h3⟩)))
end
section
variable [Dfs] {P : Program} {n : Nat} {env : Env} {S : World → Prop} {o : Oper}
theorem y_shlC {x y : Operand} {t u : Nat} {k ky : IntKind} {p q c : Int} (j : Nat) (m : Int) (ho : o.op = .binOp .shl t x y u) (hx : env.ev x = some (.int k p)) (hy : env.ev y = some (.int ky q)) (h0 : 0 ≤ q) (hj : min q.toNat k.bits = j) (hm : (2 : Int) ^ j = m) (hw : k.wrap (p * m) = c) : Yld P n env S o (.int k c) :=
  y_shl ho hx hy h0 (by rw [hj, hm]; exact hw)
theorem y_shrC {x y : Operand} {t u : Nat} {k ky : IntKind} {p q : Int} (j : Nat) (m : Int) (ho : o.op = .binOp .shr t x y u) (hx : env.ev x = some (.int k p)) (hy : env.ev y = some (.int ky q)) (h0 : 0 ≤ q) (hj : min q.toNat k.bits = j) (hm : (2 : Int) ^ j = m) (hm0 : 0 ≤ m) : Yld P n env S o (.int k (p / m)) :=
  y_shr ho hx hy h0 (by rw [hj, hm, Int.fdiv_eq_ediv_of_nonneg _ hm0])
end
section
variable {Q : EQ} {K : Env → World → Prop} {env : Env} {w : World}
theorem Th_n (h : K env w) : Th K Q .normal env w := h
theorem Th_r (h : Q .ret env w) : Th K Q .ret env w := h
theorem Th_e {i : Nat} (h : Q (.exit i) env w) : Th K Q (.exit i) env w := h
theorem Ib_n {id : Nat} (h : Q .normal env w) : Ib id Q .normal env w := h
theorem Ib_r {id : Nat} (h : Q .ret env w) : Ib id Q .ret env w := h
theorem Ib_hit {id : Nat} (h : Q .normal env w) : Ib id Q (.exit id) env w := by simpa [Ib] using h
theorem Ib_miss {i id : Nat} (hb : Nat.beq i id = false) (h : Q (.exit i) env w) : Ib id Q (.exit i) env w := by simpa [Ib, hb] using h
end
theorem wtdU [Dfs] {n : Nat} {env : Env} {ops : Array Oper} {o : Oper} {j s : Nat} {b : Bool} (hg : o.guard = some (j, b)) (hj : (ops[j]?).bind (·.dst) = some s) (hs : env.get s = some undef) : Wtd n env ops o false := fun a r => by
  have := r.get s _ hs
  simp [Region.wanted, hg, yielded, hj, this, undef]
def Rv (P : Program) (env : Env) (w : World) : ResultVar → Value → Prop
  | .tmp t, v => env.get t = some v
  | .cell p ty, v => ∃ ad, env.get p = some (.pointer (some ad)) ∧ (loadVar ty ad).run P w = .ok v w
section
variable [Dfs] {P : Program} {n : Nat} {env : Env} {w : World} {fn : Func}
theorem ResN1 {r : ResultVar} {v : Value} (h : fn.results = #[r]) (hr : Rv P env w r v) : Res P n fn env w v := fun a ra => by
  cases r with
  | tmp p =>
    have e0 := ra.get p _ hr
    simp [results, h, e0]
  | cell p ty =>
    obtain ⟨ad, f0, g0⟩ := hr
    have e0 := ra.get p _ f0
    simp [results, h, e0, g0, asAddr]
theorem ResN2 {r s : ResultVar} {v u : Value} (h : fn.results = #[r, s]) (hr : Rv P env w r v) (hs : Rv P env w s u) : Res P n fn env w (.tuple #[v, u]) := fun a ra => by
  cases r with
  | tmp p =>
    have e0 := ra.get p _ hr
    cases s with
    | tmp p =>
      have e1 := ra.get p _ hs
      simp [results, h, e0, e1]
    | cell p ty =>
      obtain ⟨ad, f1, g1⟩ := hs
      have e1 := ra.get p _ f1
      simp [results, h, e0, e1, g1, asAddr]
  | cell p ty =>
    obtain ⟨ad, f0, g0⟩ := hr
    have e0 := ra.get p _ f0
    cases s with
    | tmp p =>
      have e1 := ra.get p _ hs
      simp [results, h, e0, g0, asAddr, e1]
    | cell p ty =>
      obtain ⟨ad, f1, g1⟩ := hs
      have e1 := ra.get p _ f1
      simp [results, h, e0, g0, e1, g1, asAddr]
omit [Dfs] in
theorem rvc {H : Heap} {p t g m i ty : Nat} {cs : List Value} (hx : env.get p = some (.pointer (some ⟨g, 0, none⟩))) (ht : aggSize P t = some m) (h : Hp w H) (hi : H[i]? = some (some g, Cl cs ty)) (hl : cs.length = m) : Rv P env w (.cell p t) (.agg cs.toArray) :=
  ⟨_, hx, run_loadVar_agg ht hl (range_all h hi)⟩
end
section
variable [Dfs] {P : Program} {n : Nat} {env : Env} {S : World → Prop} {o : Oper}
end
end Go.Proofs.YtdckemiebnfjcaaGreatDoor
end

section
namespace Go.Proofs.YtdckemiebnfjcaaGreatDoor
open Go.RowKit
def Px [Dfs] (P : Program) (n : Nat) (ops : Array Oper) (S : World → Prop) (Q : EQ) (fuel : Nat) (listed : Array Bool) (env : Env) (w : World) : Prop :=
  ∀ a, Rep n env a → S w → wpAnyH P .any ops (fun e a w => match e with | .normal => Lf n (Qs Q) .normal a w | _ => False) S fuel listed a w
def rdyB (ops : Array Oper) (listed : Array Bool) (i : Nat) : Bool := (Region.ready .any ops listed).contains i && Region.free .any ops listed i && Region.noSelect ops
theorem wpAnyH_mono {P : Program} {ops : Array Oper} {Q : Exit → Act → World → Prop} {S S' : World → Prop} (hS : ∀ w, S' w → S w) : ∀ (fuel : Nat) (listed : Array Bool) (a : Act) (w : World), wpAnyH P .any ops Q S' fuel listed a w → wpAnyH P .any ops Q S fuel listed a w
  | 0, _, _, _, h => h
  | fuel + 1, _, _, _, h => ⟨h.1, fun i hi => wpOp_mono (fun a' w' h' => ⟨hS _ h'.1, wpAnyH_mono hS fuel _ a' w' h'.2⟩) (h.2 i hi)⟩
section
variable [Dfs] {P : Program} {n : Nat} {Q : EQ} {env : Env} {w : World} {ops : Array Oper} {S : World → Prop} {fuel : Nat} {listed : Array Bool}
theorem Wp_px {id : Nat} {l : List Oper} (S : World → Prop) (N : Nat) (hN : l.toArray.size = N) (hm : P.follows .mixedOrders = true) (hS : S w.drew) (h : Px P n l.toArray S Q N (Array.replicate N false) env w.drew) (hnd : l.all ndB = true := by rfl) : Wp P n (.region id l.toArray true) Q env w := fun a r => by
  have h1 := h a r hS
  subst hN
  have h2 : (Code.region id l.toArray true).wpIn (Fw Dfs.ro) 0 P (fun e a w => match e with | .normal => Lf n (Qs Q) .normal a w | _ => False) a w := wpIn_draw hm letsOutN (by simpa using hnd) (wpAny_of_held _ _ _ _ h1)
  refine Code.wpIn_mono (fun e a' w' hq => ?_) h2
  cases e <;> first | exact hq.elim | (obtain ⟨env', r', e2, hsub, q⟩ := hq; exact ⟨e2, ⟨r'.size, r'.defers, fun k v hk => r'.get k v (hsub k v hk)⟩, q⟩)
theorem Px_str (S' : World → Prop) (hSS : ∀ w, S' w → S w) (hS : S' w) (h : Px P n ops S' Q fuel listed env w) : Px P n ops S Q fuel listed env w := fun a r _ => wpAnyH_mono hSS _ _ _ _ (h a r hS)
theorem Px_pl (pl : List (Bool × Nat)) (hs : Region.noSelect ops = true) (hB : planB .any ops pl listed = true) (hlen : pl.length = fuel) (h : Pl P n ops S (Qs Q) pl env w) : Px P n ops S Q fuel listed env w := fun a r hS => by
  subst hlen
  exact Pl_sound hs pl listed env w a hB r hS h
theorem Px_y {i d : Nat} {o : Oper} {v : Value} (ho : ops[i]? = some o) (hr : rdyB ops listed i = true) (hw : Wtd n env ops o true) (hd : o.dst = some d) (hn : Nat.blt d n = true) (hy : Yld P n env S o v) (h : Px P n ops S Q fuel (listed.setIfInBounds i true) ((d, v) :: env) w) :
    Px P n ops S Q (fuel + 1) listed env w := fun a r hS => by
  simp only [rdyB, Bool.and_eq_true] at hr
  obtain ⟨⟨h1, h2⟩, h3⟩ := hr
  have r' := r.put hn v
  rw [← hd] at r'
  exact wpAnyH_take (v := v) ho h3 h2 h1 (fun _ _ _ hf => hf) (.inl ⟨hw a r, fun w' hS' => hy a r w' hS'⟩) hS (h _ r' hS)
theorem Px_act {i : Nat} {o : Oper} {a : Act} (ho : ops[i]? = some o) (hw : Wtd n env ops o true) (r : Rep n env a) (h : Act1 P n env w o (fun env' w' => S w' ∧ Px P n ops S Q fuel (listed.setIfInBounds i true) env' w')) :
    wpOp P ops (fun e a w => match e with | .normal => Lf n (Qs Q) .normal a w | _ => False) i (fun a' w' => S w' ∧ wpAnyH P .any ops (fun e a w => match e with | .normal => Lf n (Qs Q) .normal a w | _ => False) S fuel (listed.setIfInBounds i true) a' w') a w := by
  unfold wpOp
  simp only [ho]
  rw [if_pos (hw a r)]
  exact .inl (wp_noFalse (Oper.wp_mono (fun a' w' ⟨env', r', hS', hl⟩ => ⟨hS', hl a' r' hS'⟩) (h a r)))
theorem Px_a {i : Nat} {o : Oper} (hr : Region.ready .any ops listed = [i]) (ho : ops[i]? = some o) (hw : Wtd n env ops o true) (h : Act1 P n env w o (fun env' w' => S w' ∧ Px P n ops S Q fuel (listed.setIfInBounds i true) env' w')) : Px P n ops S Q (fuel + 1) listed env w := fun a r hS => by
  refine wpAnyH_all hr (by simp) fun j hj => ?_
  obtain rfl : j = i := by simpa using hj
  exact Px_act ho hw r h
theorem Px_a2 {i j : Nat} {o o' : Oper} (hr : Region.ready .any ops listed = [i, j]) (ho : ops[i]? = some o) (hw : Wtd n env ops o true) (ho' : ops[j]? = some o') (hw' : Wtd n env ops o' true)
    (h : Act1 P n env w o (fun env' w' => S w' ∧ Px P n ops S Q fuel (listed.setIfInBounds i true) env' w')) (h' : Act1 P n env w o' (fun env' w' => S w' ∧ Px P n ops S Q fuel (listed.setIfInBounds j true) env' w')) : Px P n ops S Q (fuel + 1) listed env w := fun a r hS => by
  refine wpAnyH_all hr (by simp) fun k hk => ?_
  simp only [List.mem_cons, List.not_mem_nil, or_false] at hk
  rcases hk with rfl | rfl
  · exact Px_act ho hw r h
  · exact Px_act ho' hw' r h'
end
end Go.Proofs.YtdckemiebnfjcaaGreatDoor
end

section
namespace Go.Proofs.YtdckemiebnfjcaaGreatDoor
open Go.RowKit
section
variable [Dfs] {P : Program} {n : Nat} {env : Env} {S : World → Prop} {o : Oper}
end
section
variable [Dfs] {P : Program} {n : Nat} {env : Env} {S : World → Prop} {o : Oper}
theorem y_eqnl {x y : Operand} {t u e l c l' c' : Nat} {A : Option Addr} (ho : o.op = .binOp .eql t x y u) (hx : env.ev x = some (.slice A l c)) (hy : env.ev y = some (.slice none l' c')) (ht : P.underlying t = some (.slice e)) : Yld P n env S o (.bool A.isNone) := fun a ra w _ => by
  have h : ∀ d : Nat, (Op.equalIn (d + 1) t (.slice A l c) (.slice none l' c')).run P w = .ok A.isNone w := fun d => by
    unfold Op.equalIn; cases A <;> simp [run_underlying ht]
  unfold execOp
  simp only [ho, ra.eval hx, ra.eval hy, eqGuard, binOp]
  simp [Op.equal, Op.maxDepth, h 9999]
end
structure New (w w' : World) (H1 : Heap) : Prop where
  fr : Fr [] w w'
  hp : Hp w' H1
  nw : ∀ k ∈ keys H1, w.heap.size ≤ k
structure Mod (w w' : World) (Hx H1 : Heap) : Prop where
  fr : Fr (keys Hx) w w'
  hp : Hp w' H1
  nw : ∀ k ∈ keys H1, k ∈ keys Hx ∨ w.heap.size ≤ k
theorem Hp.add {w w' : World} {H H1 : Heap} (h : Hp w H) (m : New w w' H1) : Hp w' (H ++ H1) :=
  Hp.after (Hx := []) (X := []) (by simpa using h) (by simp) m.fr m.hp fun k hk => .inr (m.nw k hk)
theorem pickL_append (H : Heap) : ∀ (a b : List Nat), pickL H (a ++ b) = pickL H a ++ pickL H b
  | [], b => rfl
  | i :: a, b => by
    simp only [List.cons_append, pickL, pickL_append H a b]
    cases H[i]? <;> rfl
theorem Hp.call {w w' : World} {H H1 Hx : Heap} (h : Hp w H) (others idx : List Nat) (hn : (others ++ idx).Nodup) (hx : pickL H idx = Hx) (m : Mod w w' Hx H1) : Hp w' (pickL H others ++ H1) := by
  have h1 := h.pk (others ++ idx) hn
  rw [pickL_append, hx] at h1
  exact Hp.after h1 (fun _ h => h) m.fr m.hp m.nw
theorem Hp.addNone {w : World} {H : Heap} (h : Hp w H) (o : Obj) : Hp w (H ++ [(none, o)]) := Hp.after (Hx := []) (X := []) (by simpa using h) (by simp) (Fr.refl _ _) (⟨fun i g o' hi => by
    match i, hi with
    | 0, hi => simp at hi
    | i + 1, hi => simp at hi, fun i j g o' o'' hi => by
    match i, hi with
    | 0, hi => simp at hi
    | i + 1, hi => simp at hi⟩ : Hp w [(none, o)]) (by simp [keys])
theorem New.refl (w : World) : New w w [] := ⟨Fr.refl _ _, Hp.nil w, by simp [keys]⟩
theorem New.drew {w w' : World} {H1 : Heap} (h : New w w' H1) : New w w'.drew H1 := ⟨h.fr.step0 (Fr.drew _), h.hp.drew, h.nw⟩
end Go.Proofs.YtdckemiebnfjcaaGreatDoor
end

section
namespace Go.Proofs.YtdckemiebnfjcaaGreatDoor
section
variable [Dfs] {P : Program} {n : Nat} {env : Env} {w : World} {o : Oper} {K : Env → World → Prop} {H : Heap}
omit [Dfs] in
theorem zeroCells_rep (z : List Value) (k : Nat) : (Builtin.zeroCells z.toArray k).toList = (List.replicate k z).flatten := by
  unfold Builtin.zeroCells
  rw [Array.toList_map, Array.toList_range]
  induction k with
  | zero => simp
  | succ k ih =>
    rw [List.replicate_succ', List.flatten_append, ← ih, List.flatten_cons, List.flatten_nil, List.append_nil]
    simp only [List.size_toArray, Nat.add_mul, Nat.one_mul, List.range_add, List.map_append, List.map_map]
    congr 1
    apply List.ext_getElem
    · simp
    · intro j h1 h2
      have hj : j < z.length := by simpa using h2
      have hm : (k * z.length + j) % z.length = j := by rw [Nat.add_comm, Nat.add_mul_mod_self_right, Nat.mod_eq_of_lt hj]
      simp [hm, hj]
theorem a_run0 {v : Value} {w' : World} (hd : o.dst = none) (hr : ∀ a, Rep n env a → (execOp a.eval o).run P w = .ok (.value v) w') (hk : K env w') : Act1 P n env w o K := fun a r => by
  unfold Oper.wp
  simp only [hr a r, Oper.upon]
  exact ⟨env, by rw [hd]; exact r, hk⟩
theorem a_clear {t e m l c i g b ty : Nat} {x : Operand} {cs z : List Value} (ho : o.op = .call { callee := .builtin .clear, args := #[x], argTypes := #[t] }) (hd : o.dst = none)
    (hx : env.ev x = some (.slice (some ⟨g, b, none⟩) l c)) (ht : elemSize P t = some (e, m)) (hz : zeroCells P e = some z) (hzl : z.length = m) (hz1 : ∀ v ∈ z, v.oneCell' = true)
    (h : Hp w H) (hi : H[i]? = some (some g, Cl cs ty)) (hfit : b + l * m ≤ cs.length)
    (hK : ∀ w', Hp w' (H.set i (some g, Cl (cs.take b ++ (List.replicate l z).flatten ++ cs.drop (b + l * m)) ty)) → Fr [g] w w' → K env w') : Act1 P n env w o K := by
  obtain ⟨hu, hs⟩ := elemSize_spec ht
  have hg := h.at hi
  cases l with
  | zero =>
    refine a_run0 hd (v := .tuple #[]) (w' := w) (fun a r => ?_) (hK w (h.conv hi (by simp)) (Fr.refl _ _))
    refine run_builtin1 ho (r.eval hx) fun q => ?_
    have hc : (Builtin.clear_ #[t] o.type #[.slice (some ⟨g, b, none⟩) 0 c]).run P w = .ok (.tuple #[]) w := by simp [Builtin.clear_, run_underlying hu]
    simp only [builtin, Sem.run_bind, hc, Result.andThen_ok]
    rfl
  | succ l =>
  have hlen : (List.replicate (l + 1) z).flatten.length = (l + 1) * m := by simp [hzl]
  have hst := run_storeCells_at P g b ty (List.replicate (l + 1) z).flatten 0 cs.toArray w hg (by rw [hlen]; simpa using hfit) (fun v hv => by
    obtain ⟨r, hr, hv⟩ := List.mem_flatten.1 hv
    rw [List.eq_of_mem_replicate hr] at hv
    exact hz1 v hv)
  rw [hlen] at hst
  simp only [Nat.add_zero] at hst
  unfold Proofs.YtdckemiebnfjcaaGreatDoor.zeroCells at hz
  cases hq : P.info? e with
  | none => simp [hq] at hz
  | some inf =>
    cases hzz : inf.zero with
    | none => simp [hq, hzz] at hz
    | some z0 =>
      have hz' : z0.cells = z.toArray := by simp [hq, hzz] at hz; rw [← hz]
      refine a_run0 hd (v := .tuple #[]) (w' := w.setRow g (cs.take b ++ (List.replicate (l + 1) z).flatten ++ cs.drop (b + (l + 1) * m)).toArray) (fun a r => ?_) (hK _ (h.setAt hi (Fr.setRow w g _) (setRow_heap w g _ _ ty (0, 0) hg)) (Fr.setRow w g _))
      refine run_builtin1 ho (r.eval hx) fun q => ?_
      have hc : (Builtin.clear_ #[t] o.type #[.slice (some ⟨g, b, none⟩) (l + 1) c]).run P w = .ok (.tuple #[]) (w.setRow g (cs.take b ++ (List.replicate (l + 1) z).flatten ++ cs.drop (b + (l + 1) * m)).toArray) := by
        simp only [Builtin.clear_]
        simp [run_underlying hu, zeroValue, typeInfo, hq, hzz, hz', zeroCells_rep, hst]
      simp only [builtin, Sem.run_bind, hc, Result.andThen_ok]
      rfl
end
theorem fold_set (b : Nat) : ∀ (us pre rest : List Value) (s : Nat), pre.length = b + s → rest.length = us.length →
    (us.zipIdx s).foldl (fun cs (x : Value × Nat) => cs.setIfInBounds (b + x.2) x.1) (pre ++ rest).toArray = (pre ++ us).toArray
  | [], pre, rest, s, _, hr => by
    obtain rfl : rest = [] := List.eq_nil_of_length_eq_zero (by simpa using hr)
    rfl
  | u :: us, pre, [], s, _, hr => by simp at hr
  | u :: us, pre, r :: rest, s, hp, hr => by
    have ih := fold_set b us (pre ++ [u]) rest (s + 1) (by simp; omega) (by simpa using hr)
    simp only [List.zipIdx_cons, List.foldl_cons]
    have e : (pre ++ r :: rest).toArray.setIfInBounds (b + s) u = (pre ++ [u] ++ rest).toArray := by
      rw [← hp]; simp
    rw [e, ih]
    simp
section
variable [Dfs] {P : Program} {n : Nat} {env : Env} {w : World} {o : Oper} {K : Env → World → Prop} {H : Heap}
theorem a_bsls {t e m : Nat} {x : Operand} {us z : List Value} (ho : o.op = .buildSlice t 1 #[(0, x)]) {d : Nat} (hd : o.dst = some d) (hn : Nat.blt d n = true) (hx : env.ev x = some (.agg us.toArray)) (ht : elemSize P t = some (e, m)) (hz : zeroCells P e = some z) (hul : us.length = m)
    (hm2 : m ≤ 1000) (h : Hp w H)
    (hK : ∀ g w', Hp w' (H ++ [(some g, Cl us e)]) → Fr [] w w' → w.heap.size ≤ g → K ((d, (.slice (some ⟨g, 0, none⟩) 1 1)) :: env) w') : Act1 P n env w o K := by
  obtain ⟨hu, hs⟩ := elemSize_spec ht
  unfold Proofs.YtdckemiebnfjcaaGreatDoor.zeroCells at hz
  cases hq : P.info? e with
  | none => simp [hq] at hz
  | some inf =>
    cases hzz : inf.zero with
    | none => simp [hq, hzz] at hz
    | some z0 =>
      refine a_run hd hn (v := .slice (some ⟨w.heap.size, 0, none⟩) 1 1) (w' := w.alloc (.cells us.toArray e)) (fun a r => ?_) (hK _ _ (h.alloc _) (Fr.alloc w _) (Nat.le_refl _))
      have hrun : (Instr.buildSlice t 1 #[(0, Value.agg us.toArray)]).run P w = .ok (.slice (some ⟨w.heap.size, 0, none⟩) 1 1) (w.alloc (.cells us.toArray e)) := by
        refine run_bsl _ hu hs (by omega) z0 (by simp [zeroValue, typeInfo, hq, hzz]) us.toArray ?_
        have key : ∀ zs : Array Value, zs.size = m → Instr.fill (fun i => some (i * m, m)) zs [(0, Value.agg us.toArray)] = some us.toArray := fun zs hzs => by
          simp only [Instr.fill]
          have hc : (Value.agg us.toArray).cells = us.toArray := rfl
          rw [hc, if_neg (by simp [hul, hzs])]
          have hf := fold_set (0 * m) us [] zs.toList 0 (by simp) (by simp [hzs, hul])
          simp only [List.nil_append, Array.toArray_toList] at hf
          refine congrArg some (Eq.trans ?_ hf)
          simp
        exact key _ (by simp)
      unfold execOp
      simp only [ho, List.map_toArray, List.map_cons, List.map_nil, r.eval hx, Sem.run_bind, hrun, Result.andThen_ok]
      rfl
end
def cutAd (a : Addr) (c p m : Nat) : Addr := if c = p then a else a.add (p * m)
theorem cutAd_in {g b c p m : Nat} (h : p < c) : cutAd ⟨g, b, none⟩ c p m = ⟨g, b + p * m, none⟩ := by
  unfold cutAd; rw [if_neg (by omega), Addr.add_mid]
section
variable [Dfs] {P : Program} {n : Nat} {env : Env} {S : World → Prop} {o : Oper}
theorem y_cutlS {t e m l c : Nat} {ad : Addr} {x : Operand} {lo hi : Option Operand} {p q : Int} (ho : o.op = .slice t x lo hi none) (hx : env.ev x = some (.slice (some ad) l c)) (ht : elemSize P t = some (e, m)) (hlo : cutLo env lo = some p) (hhi : cutHi env l hi = some q)
    (h0 : 0 ≤ p) (h1 : p ≤ q) (h2 : q ≤ c) (hlc : l ≤ c) : Yld P n env S o (.slice (some (cutAd ad c p.toNat m)) (q.toNat - p.toNat) (c - p.toNat)) := by
  have := y_cutl (P := P) (n := n) (S := S) ho hx ht hlo hhi h0 h1 h2 hlc
  have e1 : (if c = p.toNat then some ad else (some ad).map (·.add (p.toNat * m))) = some (cutAd ad c p.toNat m) := by unfold cutAd; split <;> rfl
  rw [e1] at this
  exact this
end
end Go.Proofs.YtdckemiebnfjcaaGreatDoor
end

section
namespace Go.Proofs.YtdckemiebnfjcaaGreatDoor
def wpAnyF (P : Program) (md : Region.Mode) (ops : Array Oper) (Q : Exit → Act → World → Prop) (S : World → Prop) (f : Nat) : Nat → Array Bool → Act → World → Prop
  | 0, listed, a, w => Region.ready md ops listed = [] ∧ Q .normal a w
  | fuel + 1, listed, a, w => (Region.ready md ops listed = [] → Q .normal a w) ∧
    ∀ i ∈ Region.ready md ops listed, wpOp P ops Q i (fun a' w' => (i ≠ f → S w') ∧ wpAnyF P md ops Q S f fuel (listed.setIfInBounds i true) a' w') a w
def ClosedL (md : Region.Mode) (ops : Array Oper) (listed : Array Bool) : Prop := ∀ k o, ops[k]? = some o → listed.getD k false = true → ∀ e ∈ o.after, Region.binds md e = true → listed.getD e.on false = true
section
variable [Dfs] {P : Program} {ops : Array Oper} {Q : Exit → Act → World → Prop} {md : Region.Mode} {S : World → Prop} {f : Nat}
omit [Dfs] in
theorem closed_set {listed : Array Bool} {i : Nat} (h : ClosedL md ops listed) (hi : i ∈ Region.ready md ops listed) : ClosedL md ops (listed.setIfInBounds i true) := fun k o ho hk e he hb => by
  apply getD_set_true
  by_cases hik : i = k
  · subst hik
    obtain ⟨_, o', ho', hall⟩ := mem_ready.1 hi
    rw [ho] at ho'
    cases ho'
    exact hall e he hb
  · rw [getD_set_ne false hik] at hk
    exact h k o ho hk e he hb
omit [Dfs] in
theorem closed_none (n : Nat) : ClosedL md ops (Array.replicate n false) := fun k o _ hk => by
  exfalso
  rw [Array.getD_eq_getD_getElem?] at hk
  by_cases h : k < n
  · simp [h] at hk
  · simp [h] at hk
def reachB (md : Region.Mode) (ops : Array Oper) : List Nat → List Nat → Bool
  | [], _ => true
  | k :: ks, m => m.contains k && reachB md ops ks (match ops[k]? with | some o => (o.after.toList.filter (Region.binds md)).map (·.on) ++ m | none => m)
omit [Dfs] in
theorem reach_spec {listed : Array Bool} (hc : ClosedL md ops listed) (hf : f ∈ Region.ready md ops listed) : ∀ (ks m : List Nat), reachB md ops ks m = true → (∀ x ∈ m, x = f ∨ listed.getD x false = true) → ∀ k ∈ ks, k = f ∨ listed.getD k false = true
  | [], _, _, _, _, hk => by cases hk
  | k :: ks, m, h, hm, x, hx => by
    simp only [reachB, Bool.and_eq_true, List.contains_iff_mem] at h
    have hk := hm k h.1
    rcases List.mem_cons.1 hx with rfl | hx
    · exact hk
    refine reach_spec hc hf ks _ h.2 (fun y hy => ?_) x hx
    cases ho : ops[k]? with
    | none => rw [ho] at hy; exact hm y hy
    | some o =>
      rw [ho] at hy
      simp only [List.mem_append, List.mem_map, List.mem_filter] at hy
      rcases hy with ⟨e, ⟨he, hb⟩, rfl⟩ | hy
      · right
        rcases hk with rfl | hk
        · obtain ⟨_, o', ho', hall⟩ := mem_ready.1 hf
          rw [ho] at ho'
          cases ho'
          exact hall e (by simpa using he) hb
        · exact hc k o ho hk e (by simpa using he) hb
      · exact hm y hy
def finB (md : Region.Mode) (ops : Array Oper) (f : Nat) : Bool := reachB md ops (List.range ops.size).reverse [f]
omit [Dfs] in
theorem wpAnyF_first (hfin : finB md ops f = true) {i : Nat} {oi : Oper} {v : Value} (hif : i ≠ f) (hi : ops[i]? = some oi) (hsel : ∀ (j : Nat) (o : Oper) cs b, ops[j]? = some o → o.op ≠ .select cs b)
    (hQ : ∀ c a w, Q (.panic c) (a.put oi.dst v) w → Q (.panic c) a w) : ∀ (fuel : Nat) (listed : Array Bool) (a : Act) (w : World), ClosedL md ops listed →
      (∀ j oj, ops[j]? = some oj → j ≠ i → listed.getD j true = false → (∀ e ∈ oj.after, Region.binds md e = true → e.on ≠ i) → oi.apart ops oj = true) →
      i ∈ Region.ready md ops listed → YieldsIf P ops S oi v a → S w →
      wpAnyF P md ops Q S f fuel (listed.setIfInBounds i true) (a.put oi.dst v) w → wpAnyF P md ops Q S f (fuel + 1) listed a w
  | 0, listed, a, w, _, _, hr, hy, hS, H => by
    refine ⟨fun h => (by rw [h] at hr; cases hr), fun j hj => ?_⟩
    rcases Decidable.em (j = i) with rfl | hji
    · exact hy.wpOp hi hS ⟨fun _ => hS, H⟩
    · exact absurd (ready_mono hj hji) (by rw [H.1]; exact List.not_mem_nil)
  | fuel + 1, listed, a, w, hc, hfree, hr, hy, hS, H => by
    refine ⟨fun h => (by rw [h] at hr; cases hr), fun j hj => ?_⟩
    rcases Decidable.em (j = i) with rfl | hji
    · exact hy.wpOp hi hS ⟨fun _ => hS, H⟩
    obtain ⟨hjun, oj, hoj, hall⟩ := mem_ready.1 hj
    have h0 := (mem_ready.1 hr).1
    have hnl : listed.getD i false = true → False := fun h1 => by
      rcases Nat.lt_or_ge i listed.size with h' | h'
      · simp [h'] at h0 h1; rw [h0] at h1; cases h1
      · simp [Array.getElem?_eq_none h'] at h1
    have hjf : j ≠ f := fun e => by
      subst e
      have hlt : i < ops.size := by
        rcases Nat.lt_or_ge i ops.size with h | h
        · exact h
        · rw [Array.getElem?_eq_none h] at hi; cases hi
      rcases reach_spec hc hj _ _ hfin (fun x hx => .inl (by simpa using hx)) i (by simpa using hlt) with h | h
      · exact hif h
      · exact hnl h
    have hnot : ∀ e ∈ oj.after, Region.binds md e = true → e.on ≠ i := fun e he hb heq => hnl (heq ▸ hall e he hb)
    have h2 := wpOp_putIf hoj (hfree j oj hoj hji hjun hnot) (fun cs b => hsel i oi cs b hi) (fun cs b => hsel j oj cs b hoj) hQ hy (H.2 j (ready_mono hj hji))
    refine wpOp_mono (fun a' w' h3 => ?_) h2
    have hS' := h3.2.1 hjf
    refine ⟨fun _ => hS', wpAnyF_first hfin hif hi hsel hQ fuel (listed.setIfInBounds j true) a' w' (closed_set hc hj) (fun k ok hk hki hun hno => ?_) (ready_mono hr (Ne.symm hji)) h3.1 hS' ?_⟩
    · refine hfree k ok hk hki ?_ hno
      rcases Decidable.em (j = k) with rfl | hjk
      · exact hjun
      · rwa [getD_set_ne true hjk] at hun
    · rw [Array.setIfInBounds_comm _ _ hji]
      exact h3.2.2
omit [Dfs] in
theorem wpAny_of_F : ∀ (fuel : Nat) (listed : Array Bool) (a : Act) (w : World), wpAnyF P md ops Q S f fuel listed a w → wpAny P md ops Q fuel listed a w
  | 0, _, _, _, h => h
  | fuel + 1, _, _, _, h => ⟨h.1, fun i hi => wpOp_mono (fun a' w' h' => wpAny_of_F fuel _ a' w' h'.2) (h.2 i hi)⟩
end
def FinQ [Dfs] (P : Program) (n : Nat) (ops : Array Oper) (f : Nat) (Q : EQ) : EQ := fun e env w => e = .normal ∧ ∃ o, ops[f]? = some o ∧ Wtd n env ops o true ∧ Act1 P n env w o (fun env' w' => Q .normal env' w')
section
variable [Dfs] {P : Program} {n : Nat} {Q : EQ} {env : Env} {w : World} {ops : Array Oper} {S : World → Prop} {f : Nat}
theorem Fin_a {o : Oper} (ho : ops[f]? = some o) (hw : Wtd n env ops o true) (h : Act1 P n env w o (fun env' w' => Q .normal env' w')) : FinQ P n ops f Q .normal env w := ⟨rfl, o, ho, hw, h⟩
theorem Plf_sound (hs : Region.noSelect ops = true) (hfin : finB .any ops f = true) : ∀ (l : List (Bool × Nat)) (listed : Array Bool) (env : Env) (w : World) (a : Act), ClosedL .any ops listed → planB .any ops (l ++ [(false, f)]) listed = true → (∀ x ∈ l, x.2 ≠ f) → Rep n env a → S w →
    Pl P n ops S (Qs (FinQ P n ops f Q)) l env w → wpAnyF P .any ops (fun e a w => match e with | .normal => Lf n Q .normal a w | _ => False) S f (l.length + 1) listed a w
  | [], listed, env, w, a, hc, hB, _, r, hS, h => by
    simp only [List.nil_append, planB, Bool.and_eq_true, beq_iff_eq] at hB
    obtain ⟨e', hsub, _, o, ho, hw, h⟩ := h
    have r' : Rep n e' a := ⟨r.size, r.defers, fun k v hk => r.get k v (hsub k v hk)⟩
    refine ⟨fun h0 => (by rw [hB.1] at h0; cases h0), fun j hj => ?_⟩
    obtain rfl : j = f := by rw [hB.1] at hj; simpa using hj
    unfold wpOp
    simp only [ho]
    rw [if_pos (hw a r')]
    refine .inl (wp_noFalse (Oper.wp_mono (fun a' w' ⟨env', r', hl⟩ => ⟨fun h => absurd rfl h, ?_, ⟨env', r', hl⟩⟩) (h a r')))
    simpa using hB.2
  | (true, i) :: l, listed, env, w, a, hc, hB, hne, r, hS, h => by
    simp only [List.cons_append, planB, Bool.and_eq_true] at hB
    obtain ⟨⟨h1, h2⟩, h3⟩ := hB
    obtain ⟨o, ho, hd, h⟩ := h
    have hr : i ∈ Region.ready .any ops listed := by simpa using h1
    rcases h with ⟨hw, v, hy, h⟩ | ⟨hw, h⟩
    · exact wpAnyF_first (v := v) hfin (hne (true, i) (by simp)) ho (Region.noSelect_spec hs) (fun _ _ _ hf => hf) _ listed a w hc (Region.free_spec ho h2) hr (.inl ⟨hw a r, fun w' hS' => hy a r w' hS'⟩) hS
        (Plf_sound hs hfin l _ _ w _ (closed_set hc hr) h3 (fun x hx => hne x (by simp [hx])) (r.dst hd v) hS h)
    · exact wpAnyF_first (v := undef) hfin (hne (true, i) (by simp)) ho (Region.noSelect_spec hs) (fun _ _ _ hf => hf) _ listed a w hc (Region.free_spec ho h2) hr (.inr ⟨hw a r, rfl⟩) hS
        (Plf_sound hs hfin l _ _ w _ (closed_set hc hr) h3 (fun x hx => hne x (by simp [hx])) (r.dst hd undef) hS h)
  | (false, i) :: l, listed, env, w, a, hc, hB, hne, r, hS, h => by
    simp only [List.cons_append, planB, Bool.and_eq_true, beq_iff_eq] at hB
    obtain ⟨h1, h3⟩ := hB
    obtain ⟨o, ho, hd, h⟩ := h
    have hr : i ∈ Region.ready .any ops listed := by rw [h1]; simp
    refine ⟨fun h0 => (by rw [h1] at h0; cases h0), fun j hj => ?_⟩
    obtain rfl : j = i := by rw [h1] at hj; simpa using hj
    unfold wpOp
    simp only [ho]
    rcases h with ⟨hw, h⟩ | ⟨hw, h⟩
    · rw [if_pos (hw a r)]
      exact .inl (wp_noFalse (Oper.wp_mono (fun a' w' ⟨env', r', hS', hl⟩ => ⟨fun _ => hS', Plf_sound hs hfin l _ env' w' a' (closed_set hc hr) h3 (fun x hx => hne x (by simp [hx])) r' hS' hl⟩) (h a r)))
    · rw [if_neg (by rw [hw a r]; decide)]
      exact ⟨fun _ => hS, Plf_sound hs hfin l _ _ w _ (closed_set hc hr) h3 (fun x hx => hne x (by simp [hx])) (r.dst hd undef) hS h⟩
theorem Wp_planF {id : Nat} {l : List Oper} (S : World → Prop) (pl : List (Bool × Nat)) (f : Nat) (hm : P.follows .mixedOrders = true) (hs : Region.noSelect l.toArray = true)
    (hB : planB .any l.toArray (pl ++ [(false, f)]) (Array.replicate l.toArray.size false) = true) (hfin : (finB .any l.toArray f && pl.all (fun x => x.2 != f)) = true) (hlen : pl.length + 1 = l.toArray.size) (hS : S w.drew)
    (h : Pl P n l.toArray S (Qs (FinQ P n l.toArray f Q)) pl env w.drew) (hnd : l.all ndB = true := by rfl) : Wp P n (.region id l.toArray true) Q env w := fun a r => by
  simp only [Bool.and_eq_true, List.all_eq_true, bne_iff_ne] at hfin
  have h1 := Plf_sound (P := P) (n := n) (Q := Q) (S := S) hs hfin.1 pl _ env w.drew a (closed_none _) hB hfin.2 r hS h
  rw [hlen] at h1
  have h2 : (Code.region id l.toArray true).wpIn (Fw Dfs.ro) 0 P (fun e a w => match e with | .normal => Lf n Q .normal a w | _ => False) a w := wpIn_draw hm letsOutN (by simpa using hnd) (wpAny_of_F _ _ _ _ h1)
  refine Code.wpIn_mono (fun e a' w' hq => ?_) h2
  cases e <;> first | exact hq.elim | exact hq
end
end Go.Proofs.YtdckemiebnfjcaaGreatDoor
end

section
namespace Go.Proofs.YtdckemiebnfjcaaGreatDoor
def Pf [Dfs] (P : Program) (n : Nat) (ops : Array Oper) (f : Nat) (S : World → Prop) (Q : EQ) (fuel : Nat) (listed : Array Bool) (env : Env) (w : World) : Prop :=
  ∀ a, Rep n env a → ClosedL .any ops listed → finB .any ops f = true → S w → wpAnyF P .any ops (fun e a w => match e with | .normal => Lf n Q .normal a w | _ => False) S f fuel listed a w
def rdyF (ops : Array Oper) (f : Nat) (listed : Array Bool) (i : Nat) : Bool := (Region.ready .any ops listed).contains i && Region.free .any ops listed i && Region.noSelect ops && (i != f)
section
variable [Dfs] {P : Program} {n : Nat} {Q : EQ} {env : Env} {w : World} {ops : Array Oper} {S : World → Prop} {fuel f : Nat} {listed : Array Bool}
theorem Wp_pf {id : Nat} {l : List Oper} (S : World → Prop) (N f : Nat) (hN : l.toArray.size = N) (hfin : finB .any l.toArray f = true) (hm : P.follows .mixedOrders = true) (hS : S w.drew) (h : Pf P n l.toArray f S Q N (Array.replicate N false) env w.drew) (hnd : l.all ndB = true := by rfl) : Wp P n (.region id l.toArray true) Q env w := fun a r => by
  have h1 := h a r (closed_none _) hfin hS
  subst hN
  have h2 : (Code.region id l.toArray true).wpIn (Fw Dfs.ro) 0 P (fun e a w => match e with | .normal => Lf n Q .normal a w | _ => False) a w := wpIn_draw hm letsOutN (by simpa using hnd) (wpAny_of_F _ _ _ _ h1)
  refine Code.wpIn_mono (fun e a' w' hq => ?_) h2
  cases e <;> first | exact hq.elim | exact hq
theorem Pf_y {i d : Nat} {o : Oper} {v : Value} (ho : ops[i]? = some o) (hr : rdyF ops f listed i = true) (hw : Wtd n env ops o true) (hd : o.dst = some d) (hn : Nat.blt d n = true) (hy : Yld P n env S o v) (h : Pf P n ops f S Q fuel (listed.setIfInBounds i true) ((d, v) :: env) w) :
    Pf P n ops f S Q (fuel + 1) listed env w := fun a r hc hf hS => by
  simp only [rdyF, Bool.and_eq_true, bne_iff_ne] at hr
  obtain ⟨⟨⟨h1, h2⟩, h3⟩, h4⟩ := hr
  have hr' : i ∈ Region.ready .any ops listed := by simpa using h1
  have r' := r.put hn v
  rw [← hd] at r'
  exact wpAnyF_first (v := v) hf h4 ho (Region.noSelect_spec h3) (fun _ _ _ hf => hf) _ listed a w hc (Region.free_spec ho h2) hr' (.inl ⟨hw a r, fun w' hS' => hy a r w' hS'⟩) hS (h _ r' (closed_set hc hr') hf hS)
theorem Pf_act {i : Nat} {o : Oper} {a : Act} (hr : i ∈ Region.ready .any ops listed) (hc : ClosedL .any ops listed) (hf : finB .any ops f = true) (ho : ops[i]? = some o) (hw : Wtd n env ops o true) (r : Rep n env a) (h : Act1 P n env w o (fun env' w' => S w' ∧ Pf P n ops f S Q fuel (listed.setIfInBounds i true) env' w')) :
    wpOp P ops (fun e a w => match e with | .normal => Lf n Q .normal a w | _ => False) i (fun a' w' => (i ≠ f → S w') ∧ wpAnyF P .any ops (fun e a w => match e with | .normal => Lf n Q .normal a w | _ => False) S f fuel (listed.setIfInBounds i true) a' w') a w := by
  unfold wpOp
  simp only [ho]
  rw [if_pos (hw a r)]
  exact .inl (wp_noFalse (Oper.wp_mono (fun a' w' ⟨env', r', hS', hl⟩ => ⟨fun _ => hS', hl a' r' (closed_set hc hr) hf hS'⟩) (h a r)))
theorem Pf_a {i : Nat} {o : Oper} (hr : Region.ready .any ops listed = [i]) (ho : ops[i]? = some o) (hw : Wtd n env ops o true) (h : Act1 P n env w o (fun env' w' => S w' ∧ Pf P n ops f S Q fuel (listed.setIfInBounds i true) env' w')) : Pf P n ops f S Q (fuel + 1) listed env w := fun a r hc hf hS => by
  refine ⟨fun h0 => (by rw [hr] at h0; cases h0), fun j hj => ?_⟩
  have hj' := hj
  rw [hr] at hj'
  obtain rfl : j = i := by simpa using hj'
  exact Pf_act hj hc hf ho hw r h
theorem Pf_a2 {i j : Nat} {o o' : Oper} (hr : Region.ready .any ops listed = [i, j]) (ho : ops[i]? = some o) (hw : Wtd n env ops o true) (ho' : ops[j]? = some o') (hw' : Wtd n env ops o' true)
    (h : Act1 P n env w o (fun env' w' => S w' ∧ Pf P n ops f S Q fuel (listed.setIfInBounds i true) env' w')) (h' : Act1 P n env w o' (fun env' w' => S w' ∧ Pf P n ops f S Q fuel (listed.setIfInBounds j true) env' w')) : Pf P n ops f S Q (fuel + 1) listed env w := fun a r hc hf hS => by
  refine ⟨fun h0 => (by rw [hr] at h0; cases h0), fun k hk => ?_⟩
  have hk' := hk
  rw [hr] at hk'
  simp only [List.mem_cons, List.not_mem_nil, or_false] at hk'
  rcases hk' with rfl | rfl
  · exact Pf_act hk hc hf ho hw r h
  · exact Pf_act hk hc hf ho' hw' r h'
theorem Pf_fin {o : Oper} (hr : Region.ready .any ops listed = [f]) (hr2 : Region.ready .any ops (listed.setIfInBounds f true) = []) (ho : ops[f]? = some o) (hw : Wtd n env ops o true) (h : Act1 P n env w o (fun env' w' => Q .normal env' w')) : Pf P n ops f S Q (fuel + 1) listed env w := fun a r hc hf hS => by
  refine ⟨fun h0 => (by rw [hr] at h0; cases h0), fun j hj => ?_⟩
  rw [hr] at hj
  obtain rfl : j = f := by simpa using hj
  unfold wpOp
  simp only [ho]
  rw [if_pos (hw a r)]
  refine .inl (wp_noFalse (Oper.wp_mono (fun a' w' ⟨env', r', hl⟩ => ⟨fun h => absurd rfl h, ?_⟩) (h a r)))
  cases fuel with
  | zero => exact ⟨hr2, env', r', hl⟩
  | succ fuel => exact ⟨fun _ => ⟨env', r', hl⟩, by rw [hr2]; simp⟩
end
end Go.Proofs.YtdckemiebnfjcaaGreatDoor
end
