/- Rules for copy, append, make, slice literals, and between bytes and strings. -/
import Derived.Test.YtngofknckkiboaaGreatDoorSl
namespace Go.Proofs.YtngofknckkiboaaGreatDoor
open Go.RowKit

abbrev bv (b : UInt8) : Value := .int .u8 (b.toNat : Int)

theorem run_builtin2 {P : Program} {o : Oper} {v : Value} {b : Builtin} {x y : Operand} {t t' : Nat} {u u' : Value} {a : Act} {w w' : World} (ho : o.op = .call { callee := .builtin b, args := #[x, y], argTypes := #[t, t'] }) (hx : a.eval x = u) (hy : a.eval y = u')
    (h : ∀ cs, (builtin b #[t, t'] o.type cs #[u, u']).run P w = .ok (.value v) w') : (execOp a.eval o).run P w = .ok (.value v) w' := by
  unfold execOp
  simp only [ho, resolve, List.map_toArray, List.map_cons, List.map_nil, hx, hy, Sem.run_bind, Sem.run_pure, Result.andThen_ok, invoke, h]

theorem run_loadCells_range {P : Program} {w : World} {g k : Nat} {vs : List Value} (h : w.rangeAt g k vs) : (loadCells ⟨g, k, none⟩ vs.length).run P w = .ok vs.toArray w :=
  run_loadCells_list w _ vs fun j v hj => by rw [Addr.add_mid]; exact h j v hj

section
variable [Dfs] {P : Program} {n : Nat} {env : Env} {w : World} {o : Oper} {K : Env → World → Prop} {H : Heap}

/-- copy(dst, src) of slices. -/
theorem a_copy {t t' e m g b dl dc g2 b2 sl sc i ty k : Nat} {x y : Operand} {cs vs : List Value} (ho : o.op = .call { callee := .builtin .copy, args := #[x, y], argTypes := #[t, t'] }) {d : Nat} (hd : o.dst = some d) (hn : Nat.blt d n = true)
    (hx : env.ev x = some (.slice (some ⟨g, b, none⟩) dl dc)) (hy : env.ev y = some (.slice (some ⟨g2, b2, none⟩) sl sc)) (ht : elemSize P t = some (e, m)) (hk : Nat.min sl dl = k)
    (hvs : w.rangeAt g2 b2 vs) (hl : vs.length = k * m) (h1 : ∀ v ∈ vs, v.oneCell' = true) (h : Hp w H) (hi : H[i]? = some (some g, Cl cs ty)) (hfit : b + vs.length ≤ cs.length)
    (hK : ∀ w', Hp w' (H.set i (some g, Cl (cs.take b ++ vs ++ cs.drop (b + vs.length)) ty)) → Fr [g] w w' → w'.heap.size = w.heap.size → K ((d, (.int .i64 k)) :: env) w') : Act1 P n env w o K := by
  obtain ⟨hu, hs⟩ := elemSize_spec ht
  have hg := h.at hi
  have hst := run_storeCells_at P g b ty vs 0 cs.toArray w hg (by simpa using hfit) h1
  simp only [Nat.add_zero] at hst
  have hld := run_loadCells_range (P := P) hvs
  rw [hl] at hld
  refine a_run hd hn (v := .int .i64 k) (w' := w.setRow g (cs.take b ++ vs ++ cs.drop (b + vs.length)).toArray) (fun a r => ?_) (hK _ (h.setAt hi (Fr.setRow w g _) (setRow_heap w g _ _ ty (0, 0) hg)) (Fr.setRow w g _) (by simp))
  refine run_builtin2 ho (r.eval hx) (r.eval hy) fun c => ?_
  have hc : (Builtin.copy_ #[t, t'] o.type #[.slice (some ⟨g, b, none⟩) dl dc, .slice (some ⟨g2, b2, none⟩) sl sc]).run P w = .ok (goInt k) (w.setRow g (cs.take b ++ vs ++ cs.drop (b + vs.length)).toArray) := by
    simp [Builtin.copy_, run_underlying hu, Builtin.lenOf, Builtin.firstCells, run_sizeOf hs, hk, hld]
    simp at hst
    rw [hst]
    simp
  simp only [builtin, Sem.run_bind, hc, Result.andThen_ok]
  rfl
/-- copy(dst, s) of a string. -/
theorem a_copys {t t' e g b dl dc i ty k : Nat} {x y : Operand} {cs : List Value} {s : List UInt8} (ho : o.op = .call { callee := .builtin .copy, args := #[x, y], argTypes := #[t, t'] }) {d : Nat} (hd : o.dst = some d) (hn : Nat.blt d n = true)
    (hx : env.ev x = some (.slice (some ⟨g, b, none⟩) dl dc)) (hy : env.ev y = some (sv s)) (ht : elemSize P t = some (e, 1)) (hk : Nat.min s.length dl = k)
    (h : Hp w H) (hi : H[i]? = some (some g, Cl cs ty)) (hfit : b + k ≤ cs.length)
    (hK : ∀ w', Hp w' (H.set i (some g, Cl (cs.take b ++ (s.take k).map bv ++ cs.drop (b + k)) ty)) → Fr [g] w w' → w'.heap.size = w.heap.size → K ((d, (.int .i64 k)) :: env) w') : Act1 P n env w o K := by
  obtain ⟨hu, hs⟩ := elemSize_spec ht
  have hg := h.at hi
  have hkl : k ≤ s.length := by rw [← hk]; exact Nat.min_le_left _ _
  have hlen : ((s.take k).map bv).length = k := by simp; omega
  have hst := run_storeCells_at P g b ty ((s.take k).map bv) 0 cs.toArray w hg (by rw [hlen]; simpa using hfit) (fun v hv => by obtain ⟨c, _, rfl⟩ := List.mem_map.1 hv; rfl)
  rw [hlen] at hst
  simp only [Nat.add_zero] at hst
  refine a_run hd hn (v := .int .i64 k) (w' := w.setRow g (cs.take b ++ (s.take k).map bv ++ cs.drop (b + k)).toArray) (fun a r => ?_) (hK _ (h.setAt hi (Fr.setRow w g _) (setRow_heap w g _ _ ty (0, 0) hg)) (Fr.setRow w g _) (by simp))
  refine run_builtin2 ho (r.eval hx) (r.eval hy) fun c => ?_
  have hsz : (⟨s.toArray⟩ : ByteArray).size = s.length := by simp [ByteArray.size]
  have hex : Array.map (fun b : UInt8 => Value.int IntKind.u8 (b.toNat : Int)) ((⟨s.toArray⟩ : ByteArray).extract 0 k).data = ((s.take k).map bv).toArray := by
    rw [ByteArray.data_extract]
    simp
  have hc : (Builtin.copy_ #[t, t'] o.type #[.slice (some ⟨g, b, none⟩) dl dc, sv s]).run P w = .ok (goInt k) (w.setRow g (cs.take b ++ (s.take k).map bv ++ cs.drop (b + k)).toArray) := by
    simp only [Builtin.copy_, List.getElem?_toArray, List.getElem?_cons_zero, List.getElem?_cons_succ, Sem.run_bind, run_underlying hu, Result.andThen_ok, Builtin.lenOf, Sem.run_pure, hsz, hk, Builtin.firstCells, run_sizeOf hs, hex, hst]
  simp only [builtin, Sem.run_bind, hc, Result.andThen_ok]
  rfl

omit [Dfs] in
theorem madeCells_eq (z : List Value) (c m : Nat) (hz : z.length = m) : madeCells z.toArray (c * m) = ((List.replicate c z).flatten).toArray := by
  apply Array.ext'
  unfold madeCells
  simp only [Array.toList_map, Array.toList_range, List.size_toArray]
  apply List.ext_getElem?
  intro j
  have hL : (List.replicate c z).flatten.length = c * m := by simp [hz]
  rcases Nat.lt_or_ge j (c * m) with hj | hj
  · have hm : 0 < m := by rcases Nat.eq_zero_or_pos m with h | h; · subst h; omega
                          · exact h
    rw [List.getElem?_map, List.getElem?_range hj]
    have key : ∀ (c j : Nat), j < c * m → (List.replicate c z).flatten[j]? = z[j % m]? := by
      intro c
      induction c with
      | zero => intro j hj; omega
      | succ c ih =>
        intro j hj
        rw [List.replicate_succ, List.flatten_cons]
        rcases Nat.lt_or_ge j m with h | h
        · rw [List.getElem?_append_left (by omega), Nat.mod_eq_of_lt h]
        · rw [List.getElem?_append_right (by omega), hz, ih (j - m) (by rw [Nat.succ_mul] at hj; omega)]
          congr 1
          rw [Nat.mod_eq_sub_mod h]
    rw [key c j hj, hz]
    have hlt : j % m < z.length := by rw [hz]; exact Nat.mod_lt _ hm
    simp [hlt]
  · rw [List.getElem?_eq_none (by simp; omega), List.getElem?_eq_none (by omega)]

/-- make([]T, l, c). -/
theorem a_mksl {t e m l c by' : Nat} {x y : Operand} {kl kc : IntKind} {z : List Value} (ho : o.op = .makeSlice t x y) {d : Nat} (hd : o.dst = some d) (hn : Nat.blt d n = true) (hx : env.ev x = some (.int kl (l : Int))) (hy : env.ev y = some (.int kc (c : Int)))
    (ht : elemSize P t = some (e, m)) (hz : zeroCells P e = some z) (hzl : z.length = m) (hby : (P.info? e).map (·.bytes) = some by') (hlc : l ≤ c) (hbytes : by' * c ≤ 281474976710656) (h63 : c ≤ 9223372036854775807) (h : Hp w H)
    (hK : ∀ g w', Hp w' (H ++ [(some g, Cl (List.replicate c z).flatten e)]) → Fr [] w w' → w.heap.size ≤ g → K ((d, (.slice (some ⟨g, 0, none⟩) l c)) :: env) w') : Act1 P n env w o K := by
  obtain ⟨hu, hs⟩ := elemSize_spec ht
  unfold zeroCells at hz
  cases hq : P.info? e with
  | none => simp [hq] at hz
  | some inf =>
    cases hzz : inf.zero with
    | none => simp [hq, hzz] at hz
    | some zv =>
      have hz' : zv.cells = z.toArray := by simp [hq, hzz] at hz; rw [← hz]
      have hm : inf.size = m := by simpa [hq] using hs
      have hb : inf.bytes = by' := by simpa [hq] using hby
      have hbi : (inf.bytes : Int) * (c : Int) ≤ 281474976710656 := by
        rw [hb, ← Int.natCast_mul]; omega
      have hr := run_make (P := P) w t e inf zv hu hq hzz kl kc l c (by omega) (by omega) hbi (by omega)
      simp only [Int.toNat_natCast, hm, hz', madeCells_eq z c m hzl] at hr
      refine a_run hd hn (v := .slice (some ⟨w.heap.size, 0, none⟩) l c) (w' := w.alloc (.cells (List.replicate c z).flatten.toArray e)) (fun a r => ?_) (hK _ _ (h.alloc _) (Fr.alloc w _) (Nat.le_refl _))
      unfold execOp
      simp only [ho, r.eval hx, r.eval hy, Sem.run_bind, hr, Result.andThen_ok]
      rfl
end

theorem fill_congr (f g : Nat → Option (Nat × Nat)) : ∀ (parts : List (Nat × Value)) (cs : Array Value), (∀ p ∈ parts, f p.1 = g p.1) → Instr.fill f cs parts = Instr.fill g cs parts
  | [], _, _ => rfl
  | (i, v) :: r, cs, h => by
    unfold Instr.fill
    have h0 : f i = g i := h (i, v) (by simp)
    rw [h0]
    cases g i with
    | none => rfl
    | some p => simp only; split
                · rfl
                · exact fill_congr f g r _ fun p hp => h p (by simp [hp])

theorem run_bsl {P : Program} {w : World} {t e len m : Nat} (pp : Array (Nat × Value)) (hu : P.underlying t = some (.slice e)) (hs : (P.info? e).map (·.size) = some m) (hbig : len * m ≤ 2 ^ 24) (z0 : Value) (hz : (zeroValue e).run P w = .ok z0 w) (cells : Array Value)
    (hf : Instr.fill (fun i => some (i * m, m)) ((Array.range (len * m)).map ((if len * m = 0 then (#[] : Array Value) else z0.cells)[· % (if len * m = 0 then (#[] : Array Value) else z0.cells).size]!)) pp.toList = some cells) :
    (Instr.buildSlice t len pp).run P w = .ok (.slice (some ⟨w.heap.size, 0, none⟩) len len) (w.alloc (.cells cells e)) := by
  unfold Instr.buildSlice
  simp only [Sem.run_bind, run_underlying hu, Result.andThen_ok, run_sizeOf hs]
  rw [if_neg (by omega)]
  by_cases h0 : len * m = 0
  · simp only [h0, if_true] at hf ⊢
    simp only [Sem.run_bind, Sem.run_pure, Result.andThen_ok]
    rw [hf]
    simp [newRow]
  · simp only [h0, if_false] at hf ⊢
    simp only [Sem.run_bind, hz, Sem.run_pure, Result.andThen_ok]
    rw [hf]
    simp [newRow]
section
variable [Dfs] {P : Program} {n : Nat} {env : Env} {w : World} {o : Oper} {K : Env → World → Prop} {H : Heap}
/-- []T{}: no element, whatever their size. -/
theorem a_bsl0 {t e m : Nat} {z : List Value} {d : Nat} (ho : o.op = .buildSlice t 0 #[]) (hd : o.dst = some d) (hn : Nat.blt d n = true) (ht : elemSize P t = some (e, m)) (hz : zeroCells P e = some z) (h : Hp w H)
    (hK : ∀ g w', Hp w' (H ++ [(some g, Cl [] e)]) → Fr [] w w' → w.heap.size ≤ g → K ((d, .slice (some ⟨g, 0, none⟩) 0 0) :: env) w') : Act1 P n env w o K := by
  obtain ⟨hu, hs⟩ := elemSize_spec ht
  unfold zeroCells at hz
  cases hq : P.info? e with
  | none => simp [hq] at hz
  | some inf =>
    cases hzz : inf.zero with
    | none => simp [hq, hzz] at hz
    | some z0 =>
      refine a_run hd hn (v := .slice (some ⟨w.heap.size, 0, none⟩) 0 0) (w' := w.alloc (.cells #[] e)) (fun a r => ?_) (hK _ _ (h.alloc _) (Fr.alloc w _) (Nat.le_refl _))
      have hrun := run_bsl (P := P) (w := w) (len := 0) (#[] : Array (Nat × Value)) hu hs (by omega) z0 (by simp [zeroValue, typeInfo, hq, hzz]) #[] (by simp [Instr.fill])
      unfold execOp
      simp only [ho, List.map_toArray, List.map_nil, Sem.run_bind, hrun, Result.andThen_ok]
      rfl
/-- []T{..}: each element one cell, all given in their order. -/
theorem a_bsl {t e len : Nat} {ps : List (Nat × Operand)} {vs z : List Value} (ho : o.op = .buildSlice t len ps.toArray) {d : Nat} (hd : o.dst = some d) (hn : Nat.blt d n = true) (hx : env.evs (ps.map (·.2)) = some vs) (hp : ps.map (·.1) = List.range len) (ht : elemSize P t = some (e, 1)) (hz : zeroCells P e = some z) (hzl : z.length = 1)
    (hlen : len ≤ 1000) (h1 : ∀ v ∈ vs, v.cells = #[v]) (h : Hp w H)
    (hK : ∀ g w', Hp w' (H ++ [(some g, Cl vs e)]) → Fr [] w w' → w.heap.size ≤ g → K ((d, (.slice (some ⟨g, 0, none⟩) len len)) :: env) w') : Act1 P n env w o K := by
  obtain ⟨hu, hs⟩ := elemSize_spec ht
  have hvl : vs.length = len := by
    have h1 : ∀ (xs : List Operand) (us : List Value), env.evs xs = some us → us.length = xs.length := by
      intro xs
      induction xs with
      | nil => intro us hu; simp [Env.evs] at hu; subst hu; rfl
      | cons a b ih =>
        intro us hu
        simp only [Env.evs] at hu
        split at hu
        · rename_i v us' _ h2
          simp only [Option.some.injEq] at hu
          subst hu
          simp [ih us' h2]
        · cases hu
    have h2 := h1 _ _ hx
    have h3 : (ps.map (·.1)).length = len := by rw [hp]; simp
    simp at h2 h3
    omega
  obtain ⟨zv, rfl⟩ : ∃ zv, z = [zv] := by
    match z, hzl with
    | [zv], _ => exact ⟨zv, rfl⟩
  have key : ∀ (us : List Value) (j : Nat) (pre : List Value), (∀ v ∈ us, v.cells = #[v]) → pre.length = j →
      Instr.fill (fun i => some (i * 1, 1)) (pre ++ List.replicate us.length zv).toArray ((List.range' j us.length).zip us) = some (pre ++ us).toArray := by
    intro us
    induction us with
    | nil => intro j pre _ _; simp [Instr.fill]
    | cons v us ih =>
      intro j pre hone hpre
      simp only [List.length_cons, List.range'_succ, List.zip_cons_cons]
      unfold Instr.fill
      have hv := hone v (by simp)
      simp only [hv]
      rw [if_neg (by simp; omega)]
      have e : (#[v].zipIdx.foldl (fun cs x => match x with | (c, k) => cs.setIfInBounds (j * 1 + k) c) (pre ++ List.replicate (us.length + 1) zv).toArray) = ((pre ++ [v]) ++ List.replicate us.length zv).toArray := by
        subst hpre
        simp [List.replicate_succ, Array.zipIdx]
      rw [e, ih (j + 1) (pre ++ [v]) (fun u hu => hone u (by simp [hu])) (by simp [hpre])]
      simp
  have hk := key vs 0 [] h1 rfl
  rw [hvl] at hk
  have hparts : ∀ a, Rep n env a → (ps.toArray.map fun (i, x) => (i, a.eval x)).toList = (List.range' 0 len).zip vs := fun a r => by
    rw [← List.range_eq_range', ← hp, ← r.evals hx]
    simp only [List.map_toArray, List.map_map]
    clear ho hx hp hk hvl
    induction ps with
    | nil => rfl
    | cons p ps ih => obtain ⟨i, x⟩ := p; simpa using ih
  have hzero : ∀ w : World, (zeroValue e).run P w = .ok zv w ∧ zv.cells = #[zv] ∨ True := fun _ => .inr trivial
  clear hzero
  unfold zeroCells at hz
  cases hq : P.info? e with
  | none => simp [hq] at hz
  | some inf =>
    cases hzz : inf.zero with
    | none => simp [hq, hzz] at hz
    | some z0 =>
      have hz' : z0.cells = #[zv] := by
        have : z0.cells.toList = [zv] := by simpa [hq, hzz] using hz
        rw [← this]
      have hm : inf.size = 1 := by simpa [hq] using hs
      refine a_run hd hn (v := .slice (some ⟨w.heap.size, 0, none⟩) len len) (w' := w.alloc (.cells vs.toArray e)) (fun a r => ?_) (hK _ _ (h.alloc _) (Fr.alloc w _) (Nat.le_refl _))
      have hrep : ∀ zz : Array Value, (0 < len → zz = #[zv]) → ((Array.range (len * 1)).map (zz[· % zz.size]!)) = (List.replicate len zv).toArray := fun zz hzz' => by
        apply Array.ext'
        rw [Array.toList_map, Array.toList_range]
        apply List.ext_getElem
        · simp
        · intro j h1 h2
          have : 0 < len := by simp at h1; omega
          have e := hzz' this
          subst e
          simp [Nat.mod_one]
      have hrun : (Instr.buildSlice t len (ps.toArray.map fun (i, x) => (i, a.eval x))).run P w = .ok (.slice (some ⟨w.heap.size, 0, none⟩) len len) (w.alloc (.cells vs.toArray e)) := by
        have hp2 := hparts a r
        generalize (ps.toArray.map fun (i, x) => (i, a.eval x)) = pp at hp2 ⊢
        refine run_bsl pp hu hs (by omega) z0 (by simp [zeroValue, typeInfo, hq, hzz]) vs.toArray ?_
        rw [hp2, hrep _ (fun h0 => by rw [if_neg (by omega)]; exact hz')]
        simpa using hk
      unfold execOp
      simp only [ho, Sem.run_bind, hrun, Result.andThen_ok]
      rfl
end

section
variable [Dfs] {P : Program} {n : Nat} {env : Env} {S : World → Prop} {o : Oper}
/-- string(bytes). -/
theorem y_cvbs {src dst e g b l c : Nat} {x : Operand} {xs : List Int} (ho : o.op = .convert src dst x) (hx : env.ev x = some (.slice (some ⟨g, b, none⟩) l c)) (hs : P.underlying src = some (.slice e)) (he : P.underlying e = some (.int .u8)) (hd : P.underlying dst = some .string)
    (hl : xs.length = l) (hc : ∀ w, S w → w.rangeAt g b (xs.map (Value.int .u8))) : Yld P n env S o (sv (xs.map fun q => UInt8.ofNat q.toNat)) := fun a r w hS => by
  have := run_convert_bytes_arg (P := P) w src e hs he g b l c xs hl (fun i hi => hc w hS i _ (by
    have hi' : i < xs.length := by omega
    simp [List.getElem?_eq_getElem hi'])) dst hd
  unfold execOp
  simp only [ho, r.eval hx, Sem.run_bind, this, Result.andThen_ok]
  rfl
theorem y_cvnil {src dst e l c : Nat} {x : Operand} (ho : o.op = .convert src dst x) (hx : env.ev x = some (.slice none l c)) (hs : P.underlying src = some (.slice e)) (he : P.underlying e = some (.int .u8)) (hd : P.underlying dst = some .string) : Yld P n env S o (sv []) := fun a r w _ => by
  have := run_convert_bytes_nil (P := P) w src e hs he l c dst hd
  unfold execOp
  simp only [ho, r.eval hx, Sem.run_bind, this, Result.andThen_ok]
  rfl
end

/-! ### append to a slice that is the call's own -/
/-- A slice that is nil, or all of a row from its head on, with room behind it. -/
def Ow (A : Option Addr) (l c m : Nat) (xs sp : List Value) : Prop :=
  xs.length = l * m ∧ ((A = none ∧ l = 0 ∧ c = 0 ∧ sp = []) ∨ (∃ g, A = some ⟨g, 0, none⟩ ∧ (xs ++ sp).length = c * m ∧ l ≤ c ∧ c ≤ maxLen))
def blkOf (A : Option Addr) : Option Nat := A.map (·.block)

theorem Ow.nil (m : Nat) : Ow none 0 0 m [] [] := ⟨by simp, .inl ⟨rfl, rfl, rfl, rfl⟩⟩
theorem Ow.some_ {A : Option Addr} {l c m : Nat} {xs sp : List Value} (h : Ow A l c m xs sp) (hl : 0 < l) : ∃ g, A = some ⟨g, 0, none⟩ := by
  rcases h.2 with ⟨_, h0, _⟩ | ⟨g, h1, _⟩
  · omega
  · exact ⟨g, h1⟩
theorem Ow.own {w : World} {H : Heap} {A : Option Addr} {l c m i e : Nat} {xs sp : List Value} (h : Hp w H) (hi : H[i]? = some (blkOf A, Cl (xs ++ sp) e)) (ho : Ow A l c m xs sp) : w.ownsRow 0 e m (.slice A l c) l xs := by
  obtain ⟨h1, h2⟩ := ho
  refine ⟨h1, ?_⟩
  rcases h2 with ⟨rfl, rfl, rfl, _⟩ | ⟨g, rfl, h3, h4, h5⟩
  · exact .inl ⟨rfl, rfl⟩
  · exact .inr ⟨g, c, (xs ++ sp).toArray, rfl, Nat.zero_le _, h.at hi, h4, h5, by simpa using h3, by simp [← h1]⟩

theorem src_of {w : World} {g b : Nat} {news : List Value} (h : w.rangeAt g b news) : ∀ ad, some (⟨g, b, none⟩ : Addr) = some ad → ∀ j u, news[j]? = some u → w.cell? (ad.add j) = some u := fun ad e j u hj => by
  injection e with e
  subst e
  rw [Addr.add_mid]
  exact h j u hj
theorem src_none {w : World} {news : List Value} : ∀ ad : Addr, (none : Option Addr) = some ad → ∀ j u, news[j]? = some u → w.cell? (ad.add j) = some u := fun _ e => by cases e
section
variable [Dfs] {P : Program} {n : Nat} {env : Env} {w : World} {o : Oper} {K : Env → World → Prop} {H : Heap}
/-- append(own, src...). -/
theorem a_append {t ty' e m by' l c i sl sc : Nat} {x y : Operand} {A B : Option Addr} {xs sp news z : List Value} (ho : o.op = .call { callee := .builtin .append, args := #[x, y], argTypes := #[t, ty'] }) (hty : ty' = t) {d : Nat} (hd : o.dst = some d) (hn : Nat.blt d n = true)
    (hx : env.ev x = some (.slice A l c)) (hy : env.ev y = some (.slice B sl sc)) (ht : elemSize P t = some (e, m)) (hz : zeroCells P e = some z) (hzl : z.length = m) (hby : (P.info? e).map (·.bytes) = some by') (hm : 0 < m)
    (how : Ow A l c m xs sp) (h : Hp w H) (hi : H[i]? = some (blkOf A, Cl (xs ++ sp) e)) (hnl : news.length = sl * m) (hsrc : ∀ ad, B = some ad → ∀ j u, news[j]? = some u → w.cell? (ad.add j) = some u) (hB : B = none → sl = 0) (h1 : ∀ v ∈ news, v.oneCell' = true)
    (h63 : l + sl ≤ maxLen) (hbytes : (l + sl) * by' ≤ 140737488355328)
    (hK : ∀ A' c' sp' w', Ow A' (l + sl) c' m (xs ++ news) sp' → Hp w' (H.set i (blkOf A', Cl ((xs ++ news) ++ sp') e)) → Fr (blkOf A).toList w w' → (∀ g, blkOf A' = some g → blkOf A = some g ∨ w.heap.size ≤ g) → K ((d, (.slice A' (l + sl) c')) :: env) w') : Act1 P n env w o K := by
  subst hty
  obtain ⟨hu, hs⟩ := elemSize_spec ht
  have hown := Ow.own h hi how
  unfold zeroCells at hz
  cases hq : P.info? e with
  | none => simp [hq] at hz
  | some inf =>
    cases hzz : inf.zero with
    | none => simp [hq, hzz] at hz
    | some z0 =>
      have hz' : z0.cells = z.toArray := by simp [hq, hzz] at hz; rw [← hz]
      have hms : inf.size = m := by simpa [hq] using hs
      have hb : inf.bytes = by' := by simpa [hq] using hby
      have main : ∃ v' w', (Builtin.append_ #[ty', ty'] o.type #[.slice A l c, .slice B sl sc]).run P w = .ok v' w' ∧ w'.ownsRow 0 e m v' (l + sl) (xs ++ news) ∧ w.grownBy w' (Value.slice A l c).ownBlock ∧
          (v'.ownBlock = (Value.slice A l c).ownBlock ∨ v'.ownBlock = some w.heap.size) := by
        cases B with
        | some ad =>
          obtain ⟨v', w', hr, ho1, hgr, _, hat⟩ := run_append_own_at (P := P) w 0 ty' o.type e inf z0 m by' hu hq hzz hms hb (by rw [hz']; simpa using hzl) hm (.slice A l c) l xs hown ad sl sc news hnl (hsrc ad rfl) h1 h63 hbytes (Nat.zero_le _)
          exact ⟨v', w', hr, ho1, hgr, hat⟩
        | none =>
          have hsl := hB rfl
          subst hsl
          have hn : news = [] := List.eq_nil_of_length_eq_zero (by simpa using hnl)
          subst hn
          refine ⟨.slice A l c, w, ?_, by simpa using hown, World.grownBy.refl w _, .inl rfl⟩
          rcases hown.2 with ⟨hv, _⟩ | ⟨g, cap, cur, hv, _, _, hnc, _⟩
          · rw [hv]; simp [Builtin.append_, run_underlying hu, sizeOf, typeInfo, hq, Builtin.lenOf, Builtin.firstCells]
          · rw [hv]; simp [Builtin.append_, run_underlying hu, sizeOf, typeInfo, hq, Builtin.lenOf, Builtin.firstCells, hnc, storeCells]
      obtain ⟨v', w', hrun, hown', hgr, hat⟩ := main
      have hform : ∃ A' c' sp', v' = .slice A' (l + sl) c' ∧ Ow A' (l + sl) c' m (xs ++ news) sp' ∧ (∀ g, blkOf A' = some g → w'.heap[g]? = some (Cl ((xs ++ news) ++ sp') e)) ∧ blkOf A' = v'.ownBlock := by
        obtain ⟨h2, h3⟩ := hown'
        rcases h3 with ⟨rfl, hl0⟩ | ⟨g, cap, cur, rfl, _, hg, hnc, hcm, hsz, htk⟩
        · have hxe : xs ++ news = [] := List.eq_nil_of_length_eq_zero (by rw [h2, hl0]; simp)
          exact ⟨none, 0, [], by rw [hl0], ⟨h2, .inl ⟨rfl, hl0, rfl, rfl⟩⟩, fun g e => by simp [blkOf] at e, rfl⟩
        · refine ⟨some ⟨g, 0, none⟩, cap, cur.toList.drop ((l + sl) * m), rfl, ⟨h2, .inr ⟨g, rfl, ?_, hnc, hcm⟩⟩, fun g' e' => ?_, rfl⟩
          · rw [← htk, List.take_append_drop]; simpa using hsz
          · simp [blkOf] at e'
            subst e'
            rw [← htk, List.take_append_drop]
            simpa using hg
      obtain ⟨A', c', sp', rfl, how', hblk, hob⟩ := hform
      have hob0 : (Value.slice A l c).ownBlock = blkOf A := by cases A <;> rfl
      have hob1 : (Value.slice A' (l + sl) c').ownBlock = blkOf A' := by cases A' <;> rfl
      have hfr : Fr (blkOf A).toList w w' := ⟨hgr.os, hgr.tape, hgr.output, hgr.size, fun k hk hn => hgr.block k hk (by
        rw [hob0]
        intro e2
        exact hn (by rw [← e2]; simp)), run_drawn _ _ _ _ hrun⟩
      have hnew : ∀ g, blkOf A' = some g → blkOf A = some g ∨ w.heap.size ≤ g := fun g' hg' => by
        rw [hob1, hob0] at hat
        rcases hat with e1 | e1
        · exact .inl (by rw [← e1]; exact hg')
        · rw [hg'] at e1
          injection e1 with e1
          exact .inr (by omega)
      refine a_run hd hn (v := .slice A' (l + sl) c') (w' := w') (fun a r => ?_) (hK A' c' sp' w' how' (h.setAny hi (fun x hx => by simpa using hx) hfr fun g' hg' => ⟨hblk g' hg', hnew g' hg'⟩) hfr hnew)
      refine run_builtin2 ho (r.eval hx) (r.eval hy) fun cs => ?_
      simp only [builtin, Sem.run_bind, hrun, Result.andThen_ok]
      rfl
end
end Go.Proofs.YtngofknckkiboaaGreatDoor
