/- Maps as lists of entries in the order in which their keys came: keys and values without memory. -/
import Derived.Test.YtmpeiadlohbikaaGreatDoorAt1
import Derived.ChangeKeysEq
import Derived.MapKept
section
set_option linter.unusedVariables false
set_option linter.unusedSimpArgs false
namespace Go.Proofs.YtmpeiadlohbikaaGreatDoor
open Go.RowKit
def mo(X:List Nat)(w:World)(A:Option Addr)(cs:List Value):Prop:=
 ∀(j:Nat) v,cs[j]? =some v→ ∃g b,A=some ⟨g,b,none⟩∧g∉X∧w.cell? ⟨g,b+j,none⟩=some v
theorem Bj{w:World}{a:Addr}{v:Value}(h:w.cell? a=some v):a.block<w.heap.size:=by
 unfold World.cell? at h;split at h
 ·rename_i c t x hb;exact cg hb
 ·cases h
theorem mo.stable{X Y:List Nat}{w w':World}{A:Option Addr}{cs:List Value}(h:mo X w A cs)(hf:Fr X w w')(hY: ∀y∈Y,y∈X∨w.heap.size≤y):mo Y w' A cs:=fun j v hj=>by
 obtain⟨g,b,rfl,hX,hc⟩:=h j v hj;have hlt:=Bj hc;refine⟨g,b,rfl,fun hy=>?_,?_⟩
 ·rcases hY g hy with h1|h1
  ·exact hX h1
  ·simp only at hlt;omega
 ·rw[hf.cell hlt hX];exact hc
theorem mo.sub{X Y:List Nat}{w:World}{A:Option Addr}{cs:List Value}(h:mo X w A cs)(hY: ∀y∈Y,y∈X):mo Y w A cs:=fun j v hj=>by
 obtain⟨g,b,e,hX,hc⟩:=h j v hj;exact⟨g,b,e,fun hy=>hX (hY g hy),hc⟩
theorem mo.nil{X:List Nat}{w:World}{A:Option Addr}:mo X w A []:=fun j v hj=>by simp at hj
theorem mo.take{X:List Nat}{w:World}{A:Option Addr}{cs:List Value}(h:mo X w A cs)(k:Nat):mo X w A (cs.take k):=fun j v hj=>by
 rw[List.getElem?_take]at hj;split at hj
 ·exact h j v hj
 ·cases hj
theorem mo.addr{X:List Nat}{w:World}{A:Option Addr}{cs:List Value}(h:mo X w A cs)(hl:0<cs.length): ∃g b,A=some ⟨g,b,none⟩:=by
 obtain⟨g,b,e,_⟩:=h 0 cs[0] (List.getElem?_eq_getElem hl);exact⟨g,b,e⟩
theorem mo.range{X:List Nat}{w:World}{g b:Nat}{cs:List Value}(h:mo X w (some ⟨g,b,none⟩) cs)(k m:Nat):w.rangeAt g (b+k) ((cs.drop k).take m):=fun j v hj=>by
 rw[List.getElem?_take]at hj;split at hj
 ·rw[List.getElem?_drop]at hj;obtain⟨g',b',e,_,hc⟩:=h _ v hj;injection e with e;injection e with e1 e2;subst e1;subst e2;rw[Nat.add_assoc];exact hc
 ·cases hj
theorem mo.src{X:List Nat}{w:World}{A:Option Addr}{cs:List Value}(h:mo X w A cs): ∀ad,A=some ad→ ∀j u,cs[j]? =some u→w.cell? (ad.add j)=some u:=fun ad hA j u hj=>by
 obtain⟨g,b,e,_,hc⟩:=h j u hj;rw[hA]at e;injection e with e;subst e;rw[Addr.add_mid];exact hc
theorem mo.drop{X:List Nat}{w:World}{g b:Nat}{cs:List Value}(h:mo X w (some ⟨g,b,none⟩) cs)(k:Nat):mo X w (some ⟨g,b+k,none⟩) (cs.drop k):=fun j v hj=>by
 rw[List.getElem?_drop]at hj;obtain⟨g',b',e,hX,hc⟩:=h _ v hj;injection e with e;injection e with e1 e2;subst e1;subst e2;exact⟨g,b+k,rfl,hX,by rw[Nat.add_assoc];exact hc⟩
structure Kf where
 p:List Nat→World→Prop
 st: ∀{X Y:List Nat} {w w':World},p X w→Fr X w w'→(∀y∈Y,y∈X∨w.heap.size≤y)→p Y w'
structure hZ(X:List Nat)(w:World)(A:Option Addr)(l c m:Nat)(cs:List Value):Prop where
 rd:mo X w A cs
 len:cs.length=l*m
 lc:l≤c
 cm:c≤maxLen
theorem hZ.stable{X Y:List Nat}{w w':World}{A:Option Addr}{l c m:Nat}{cs:List Value}(h:hZ X w A l c m cs)(hf:Fr X w w')(hY: ∀y∈Y,y∈X∨w.heap.size≤y):hZ Y w' A l c m cs:=⟨h.rd.stable hf hY,h.len,h.lc,h.cm⟩
theorem hZ.le{X:List Nat}{w:World}{A:Option Addr}{l c m:Nat}{cs:List Value}(h:hZ X w A l c m cs):l≤9223372036854775807:=by have h1:=h.lc;have h2:=h.cm;unfold maxLen at h2;omega
theorem Ow.le{A:Option Addr}{l c m:Nat}{xs sp:List Value}(h:Ow A l c m xs sp):l≤9223372036854775807:=by
 rcases h.2 with⟨_,h0,_⟩|⟨g,_,_,h1,h2⟩
 ·omega
 ·unfold maxLen at h2;omega
def kS(A:Option Addr)(l c m:Nat)(cs:List Value):Kf:=⟨fun X w=>hZ X w A l c m cs,fun h hf hY=>h.stable hf hY⟩
structure St(X:List Nat)(w:World)(H:bZ)(K:List Kf):Prop where
 hp:Hp w H
 kr: ∀k∈K,k.p (aQ H++X) w
 lo: ∀x∈X,x<w.heap.size
 dj: ∀x∈X,x∉aQ H
def Lo(X:List Nat)(w:World):Prop:= ∀x∈X,x<w.heap.size
section
variable {X:List Nat} {w w':World} {H H':bZ} {K:List Kf} {g i:Nat} {o o':Obj}
theorem St.nil(hX:Lo X w):St X w [] []:=⟨Hp.nil w,by simp,hX,by simp[aQ]⟩
theorem St.drew(h:St X w H K):St X w.drew H K:=⟨h.hp.drew,fun k hk=>k.st (h.kr k hk) ((Fr.refl _ _).step0 (Fr.drew w)) (fun _ hy=> .inl hy),h.lo,h.dj⟩
theorem St.Lo(h:St X w H K):Lo (aQ H++X) w:=fun x hx=>by
 rcases List.mem_append.1 hx with hx|hx
 ·exact h.hp.keys_lt x hx
 ·exact h.lo x hx
theorem Fr.weak0{X:List Nat}{w w':World}(h:Fr [] w w'):Fr X w w':=h.mono (by simp)
theorem St.keep0(h:St X w H K)(hf:Fr [] w w'):St X w' H K:=⟨h.hp.keep0 hf,fun k hk=>k.st (h.kr k hk) hf.weak0 (fun _ hy=> .inl hy),fun x hx=>Nat.lt_of_lt_of_le (h.lo x hx) hf.size,h.dj⟩
theorem gJ(a b:bZ):aQ (a++b)=aQ a++aQ b:=by unfold aQ;rw[List.filterMap_append]
theorem St.step{Y:List Nat}(h:St X w H K)(hp:Hp w' H')(hf:Fr Y w w')(hY: ∀y∈Y,y∈aQ H)(hk: ∀k∈aQ H',k∈aQ H∨w.heap.size≤k):St X w' H' K:=
 ⟨hp,fun k hk'=>k.st (h.kr k hk') (hf.mono fun y hy=>List.mem_append_left _ (hY y hy)) (fun y hy=>by
  rcases List.mem_append.1 hy with hy|hy
  ·rcases hk y hy with h1|h1
   ·exact .inl (List.mem_append_left _ h1)
   ·exact .inr h1
  ·exact .inl (List.mem_append_right _ hy)),fun x hx=>Nat.lt_of_lt_of_le (h.lo x hx) hf.size,fun x hx hk'=>by
  rcases hk x hk' with h1|h1
  ·exact h.dj x hx h1
  ·have:=h.lo x hx;omega⟩
theorem St.push{o:Obj}(h:St X w H K)(hp:Hp w' (H++ [(some g,o)]))(hf:Fr [] w w')(hg:w.heap.size≤g):St X w' (H++ [(some g,o)]) K:=
 h.step hp hf (by simp) fun k hk=>by
  rw[gJ]at hk;rcases List.mem_append.1 hk with hk|hk
  ·exact .inl hk
  ·simp[aQ]at hk;subst hk;exact .inr hg
theorem uN{k' k:Option Nat}(hi:H[i]? =some (k,o)){x:Nat}(hx:x∈aQ (H.set i (k',o'))):x∈aQ H∨k'=some x:=by
 obtain⟨j,b,hj⟩:=cP.1 hx;rw[List.getElem?_set]at hj;split at hj
 ·split at hj
  ·simp at hj;exact .inr hj.1
  ·cases hj
 ·exact .inl (cP.2 ⟨j,b,hj⟩)
theorem St.set(h:St X w H K)(hi:H[i]? =some (some g,o))(hp:Hp w' (H.set i (some g,o')))(hf:Fr [g] w w'):St X w' (H.set i (some g,o')) K:=
 h.step hp hf (fun y hy=>by simp at hy;subst hy;exact cP.2 ⟨i,o,hi⟩) fun k hk=>by
  rcases uN hi hk with h1|h1
  ·exact .inl h1
  ·injection h1 with h1;subst h1;exact .inl (cP.2 ⟨i,o,hi⟩)
theorem St.setAny{k k':Option Nat}(h:St X w H K)(hi:H[i]? =some (k,o))(hp:Hp w' (H.set i (k',o')))(hf:Fr k.toList w w')(hk': ∀g',k'=some g'→k=some g'∨w.heap.size≤g'):St X w' (H.set i (k',o')) K:=
 h.step hp hf (fun y hy=>by cases k with
  |none=>simp at hy
  |some g=>simp at hy;subst hy;exact cP.2 ⟨i,o,hi⟩) fun x hx=>by
  rcases uN hi hx with h1|h1
  ·exact .inl h1
  ·rcases hk' x h1 with h2|h2
   ·subst h2;exact .inl (cP.2 ⟨i,o,hi⟩)
   ·exact .inr h2
theorem St.addK(h:St X w H K)(k:Kf)(hk:k.p (aQ H++X) w):St X w H (K++ [k]):=⟨h.hp,fun j hj=>by
 rcases List.mem_append.1 hj with hj|hj
 ·exact h.kr j hj
 ·simp at hj;subst hj;exact hk,h.lo,h.dj⟩
theorem St.addN(h:St X w H K)(o:Obj):St X w (H++ [(none,o)]) K:=⟨h.hp.addNone o,fun k hk=>by
 have:aQ (H++ [(none,o)])=aQ H:=by rw[gJ];simp[aQ]
 rw[this];exact h.kr k hk,h.lo,fun x hx=>by rw[gJ];simpa[aQ]using h.dj x hx⟩
theorem St.k{A:Option Addr}{l c m:Nat}{cs:List Value}(h:St X w H K)(hi:K[i]? =some (kS A l c m cs)):hZ (aQ H++X) w A l c m cs:=h.kr _ (List.mem_of_getElem? hi)
def Gz{X:List Nat}{w:World}{H:bZ}{K:List Kf}(_:St X w H K):bZ:=H
def Kz{X:List Nat}{w:World}{H:bZ}{K:List Kf}(_:St X w H K):List Kf:=K
theorem ia{idx:List Nat}{x:Nat}(h:x∈aQ (cx H idx)):x∈aQ H:=by
 induction idx with
 |nil=>simp[cx,aQ]at h
 |cons a r ih=>
  unfold cx at h;cases ha:H[a]? with
  |none=>rw[ha]at h;exact ih h
  |some e=>
   rw[ha]at h;obtain⟨k,ob⟩:=e;unfold aQ at h;rw[List.filterMap_cons]at h;cases k with
   |none=>exact ih h
   |some g=>
    simp only[List.mem_cons]at h;rcases h with rfl|h
    ·exact cP.2 ⟨a,ob,ha⟩
    ·exact ih h
theorem Kf.sub(k:Kf){X Y:List Nat}{w:World}(h:k.p X w)(hY: ∀y∈Y,y∈X):k.p Y w:=k.st h (Fr.refl _ _) (fun y hy=> .inl (hY y hy))
theorem St.pk(h:St X w H K)(idx:List Nat)(hn:idx.Nodup):St X w (cx H idx) K:=⟨h.hp.pk idx hn,fun k hk=>k.sub (h.kr k hk) (fun y hy=>by
 rcases List.mem_append.1 hy with hy|hy
 ·exact List.mem_append_left _ (ia hy)
 ·exact List.mem_append_right _ hy),h.lo,fun x hx hk=>h.dj x hx (ia hk)⟩
theorem St.out{k:Kf}(h:St X w H K)(hi:K[i]? =some k):k.p X w:=k.sub (h.kr k (List.mem_of_getElem? hi)) (fun y hy=>List.mem_append_right _ hy)
theorem St.freeze{l c m ty:Nat}{A:Option Addr}{xs sp:List Value}(h:St X w H K)(idx:List Nat)(hn:(idx++ [i]).Nodup)(hi:H[i]? =some (ab A,Cl (xs++sp) ty))(ho:Ow A l c m xs sp)(hm:0<m):St X w (cx H idx) (K++ [kS A l c m xs]):=by
 refine(h.pk idx (List.nodup_append.1 hn).1).addK _ ?_;show hZ _ _ _ _ _ _ _
 have hlc:l≤c∧c≤maxLen:=by
  rcases ho.2 with⟨_,rfl,rfl,_⟩|⟨g,_,_,h1,h2⟩
  ·exact⟨Nat.le_refl _,Nat.zero_le _⟩
  ·exact⟨h1,h2⟩
 refine⟨fun j v hj=>?_,ho.1,hlc.1,hlc.2⟩;have hjl:j<xs.length:=(List.getElem?_eq_some_iff.1 hj).1;obtain⟨g,rfl⟩:=ho.some_ (by rw[ho.1]at hjl;exact Nat.pos_of_ne_zero (by rintro rfl;omega));refine⟨g,0,rfl,fun hg=>?_,?_⟩
 ·rcases List.mem_append.1 hg with hg|hg
  ·obtain⟨a,ob,ha⟩:=cP.1 hg;have key: ∀(idx:List Nat) (a:Nat) e,(cx H idx)[a]? =some e→ ∃q:Nat,q∈idx∧H[q]? =some e:=by
    intro idx;induction idx with
    |nil=>intro j e he;simp[cx]at he
    |cons x r ih=>
     intro j e he;unfold cx at he;cases hx:H[x]? with
     |none=>rw[hx]at he;obtain⟨q,h1,h2⟩:=ih j e he;exact⟨q,by simp[h1],h2⟩
     |some y=>
      rw[hx]at he;cases j with
      |zero=>simp at he;subst he;exact⟨x,by simp,hx⟩
      |succ j=>obtain⟨q,h1,h2⟩:=ih j e (by simpa using he);exact⟨q,by simp[h1],h2⟩
   obtain⟨q,hq,hqe⟩:=key idx a _ ha;have:=h.hp.inj q i g ob _ hqe hi;subst this;have:=(List.nodup_append.1 hn).2.2 q hq q (by simp);exact this rfl
  ·exact h.dj g hg (cP.2 ⟨i,_,hi⟩)
 ·rw[Nat.zero_add];exact i6 h.hp hi (by rw[List.getElem?_append_left hjl];exact hj)
def pickK(K:List Kf):List Nat→List Kf
 | []=> []
 |i::r=>match K[i]? with
  |some e=>e::pickK K r
  |none=>pickK K r
theorem rC{idx:List Nat}{k:Kf}(h:k∈pickK K idx):k∈K:=by
 induction idx with
 |nil=>simp[pickK]at h
 |cons a r ih=>
  unfold pickK at h;cases ha:K[a]? with
  |none=>rw[ha]at h;exact ih h
  |some e=>
   rw[ha]at h;simp only[List.mem_cons]at h;rcases h with rfl|h
   ·exact List.mem_of_getElem? ha
   ·exact ih h
theorem St.sub(h:St X w H K)(others idx kidx:List Nat)(hn:(others++idx).Nodup):St (aQ (cx H others)++X) w (cx H idx) (pickK K kidx):=by
 have h1:=h.hp.pk (others++idx) hn;rw[jO]at h1;refine⟨h.hp.pk idx (List.nodup_append.1 hn).2.1,fun k hk=>k.sub (h.kr k (rC hk)) (fun y hy=>?_),fun x hx=>?_,fun x hx hk=>?_⟩
 ·rcases List.mem_append.1 hy with hy|hy
  ·exact List.mem_append_left _ (ia hy)
  ·rcases List.mem_append.1 hy with hy|hy
   ·exact List.mem_append_left _ (ia hy)
   ·exact List.mem_append_right _ hy
 ·rcases List.mem_append.1 hx with hx|hx
  ·exact h.hp.keys_lt x (ia hx)
  ·exact h.lo x hx
 ·rcases List.mem_append.1 hx with hx|hx
  ·obtain⟨a,o1,ha⟩:=cP.1 hx;obtain⟨b,o2,hb⟩:=cP.1 hk;have la:a<(cx H others).length:=(List.getElem?_eq_some_iff.1 ha).1;have:=h1.inj a ((cx H others).length+b) x o1 o2 (by rw[List.getElem?_append_left la];exact ha) (by rw[List.getElem?_append_right (by omega)];simpa using hb);omega
  ·exact h.dj x hx (ia hk)
end
theorem lK{P:Nat→Prop}: ∀k∈aQ [],P k:=fun k hk=>by simp[aQ]at hk
theorem QY{P:Nat→Prop}{g:Nat}{o:Obj}{H:bZ}(h:P g)(hr: ∀k∈aQ H,P k): ∀k∈aQ ((some g,o)::H),P k:=fun k hk=>by
 simp only[aQ,List.filterMap_cons,List.mem_cons]at hk;rcases hk with rfl|hk
 ·exact h
 ·exact hr k hk
theorem lL{P:Nat→Prop}{k0:Option Nat}{o:Obj}{H:bZ}(h: ∀g,k0=some g→P g)(hr: ∀k∈aQ H,P k): ∀k∈aQ ((k0,o)::H),P k:=fun k hk=>by
 cases k0 with
 |none=>exact hr k (by simpa[aQ]using hk)
 |some g=>exact QY (h g rfl) hr k hk
theorem QZ(g:Nat){o:Obj}(H:bZ):g∈aQ ((some g,o)::H):=by simp[aQ]
theorem hZ.own{w:World}{H:bZ}{A:Option Addr}{l c m i e:Nat}{xs sp:List Value}(h:Hp w H)(hi:H[i]? =some (ab A,Cl (xs++sp) e))(ho:Ow A l c m xs sp)(hm:0<m):hZ [] w A l c m xs:=by
 have hlc:l≤c∧c≤maxLen:=by
  rcases ho.2 with⟨_,rfl,rfl,_⟩|⟨g,_,_,h1,h2⟩
  ·exact⟨Nat.le_refl _,Nat.zero_le _⟩
  ·exact⟨h1,h2⟩
 refine⟨fun j v hj=>?_,ho.1,hlc.1,hlc.2⟩;have hjl:j<xs.length:=(List.getElem?_eq_some_iff.1 hj).1;obtain⟨g,rfl⟩:=ho.some_ (by rw[ho.1]at hjl;exact Nat.pos_of_ne_zero (by rintro rfl;omega));exact⟨g,0,rfl,by simp,by rw[Nat.zero_add];exact i6 h hi (by rw[List.getElem?_append_left hjl];exact hj)⟩
def ix{α:Type} [Inhabited α](l:List α)(q:Int):α:=(l[q.toNat]?).getD default
theorem bc{α:Type}{enc:α→List Value}{m:Nat}(hm: ∀x,(enc x).length=m)(l:List α):(l.flatMap enc).length=l.length*m:=by
 induction l with
 |nil=>simp
 |cons a l ih=>rw[List.flatMap_cons,List.length_append,ih,hm,List.length_cons,Nat.add_mul,Nat.one_mul,Nat.add_comm]
theorem lB{α:Type}{enc:α→List Value}{m:Nat}(hm: ∀x,(enc x).length=m)(l:List α)(k:Nat):(l.flatMap enc).drop (k*m)=(l.drop k).flatMap enc:=by
 induction l generalizing k with
 |nil=>simp
 |cons a l ih=>
  cases k with
  |zero=>simp
  |succ k=>
   rw[List.flatMap_cons,List.drop_succ_cons,←ih k,show(k+1)*m=(enc a).length+k*m by rw[hm,Nat.add_mul,Nat.one_mul,Nat.add_comm],List.drop_length_add_append]
theorem lC{α:Type}{enc:α→List Value}{m:Nat}(hm: ∀x,(enc x).length=m)(l:List α)(k:Nat):(l.flatMap enc).take (k*m)=(l.take k).flatMap enc:=by
 induction l generalizing k with
 |nil=>simp
 |cons a l ih=>
  cases k with
  |zero=>simp
  |succ k=>
   rw[List.flatMap_cons,List.take_succ_cons,List.flatMap_cons,←ih k,show(k+1)*m=(enc a).length+k*m by rw[hm,Nat.add_mul,Nat.one_mul,Nat.add_comm],List.take_length_add_append]
theorem EP{α:Type} [Inhabited α]{enc:α→List Value}{m:Nat}(hm: ∀x,(enc x).length=m)(l:List α){q:Int}(h1:q.toNat<l.length):((l.flatMap enc).drop (q.toNat*m)).take m=enc (ix l q):=by
 rw[lB hm,List.drop_eq_getElem_cons h1,List.flatMap_cons,List.take_left' (hm _)];unfold ix;rw[List.getElem?_eq_getElem h1];rfl
theorem hZ.elem{α:Type} [Inhabited α]{enc:α→List Value}{m:Nat}{X:List Nat}{w:World}{g b l' c:Nat}{l:List α}(h:hZ X w (some ⟨g,b,none⟩) l' c m (l.flatMap enc))(hm: ∀x,(enc x).length=m){q:Int}(h0:0≤q)(h1:q<l.length):w.rangeAt g (b+q.toNat*m) (enc (ix l q)):=by
 rw[←EP hm l (by omega)];exact h.rd.range _ _
theorem hZ.addr{α:Type}{enc:α→List Value}{m:Nat}{X:List Nat}{w:World}{A:Option Addr}{l' c:Nat}{l:List α}(h:hZ X w A l' c m (l.flatMap enc))(hm: ∀x,(enc x).length=m)(hm0:0<m){q:Int}(h0:0≤q)(h1:q<l.length): ∃g b,A=some ⟨g,b,none⟩:=
 h.rd.addr (by rw[bc hm];exact Nat.mul_pos (by omega) hm0)
section
variable [bB] {P:Program} {n:Nat} {env:aI} {S:World→Prop} {o:Oper}
theorem oA{α:Type} [Inhabited α]{enc:α→List Value}{X:List Nat}{t g b m l' c:Nat}{x:Operand}{l:List α}{q:Int}(ho:o.op= .load t x)(hx:env.ev x=some (.pointer (some ⟨g,b+q.toNat*m,none⟩)))(ht:ba P t=some m)
  (hS: ∀w,S w→hZ X w (some ⟨g,b,none⟩) l' c m (l.flatMap enc)) (hm: ∀x,(enc x).length=m) (h0:0≤q) (h1:q<l.length):ci P n env S o (.agg (enc (ix l q)).toArray):=
 xR ho hx ht (hm _) fun w hw=>(hS w hw).elem hm h0 h1
theorem jQ{α:Type} [Inhabited α]{enc:α→List Value}{X:List Nat}{t g b m l' c:Nat}(off:Nat){x:Operand}{l:List α}{q:Int}{v:Value}(ho:o.op= .load t x)(hx:env.ev x=some (.pointer (some ⟨g,b+q.toNat*m+off,none⟩)))(ht:dG P t=true)
  (hS: ∀w,S w→hZ X w (some ⟨g,b,none⟩) l' c m (l.flatMap enc)) (hm: ∀x,(enc x).length=m) (h0:0≤q) (h1:q<l.length) (hv:(enc (ix l q))[off]? =some v):ci P n env S o v:=
 xQ ho hx ht fun w hw=>(hS w hw).elem hm h0 h1 off v hv
end
section
variable {X:List Nat} {w w':World} {H H':bZ} {K:List Kf}
theorem St.tK(h:St X w H K)(n:Nat):St X w H (K.take n):=⟨h.hp,fun k hk=>h.kr k (List.mem_of_mem_take hk),h.lo,h.dj⟩
theorem St.pickK(h:St X w H K)(idx:List Nat):St X w H (Proofs.YtmpeiadlohbikaaGreatDoor.pickK K idx):=⟨h.hp,fun k hk=>h.kr k (rC hk),h.lo,h.dj⟩
theorem nh{A:Option Addr}{cs:List Value}{l m:Nat}(h:mo X w A cs)(hA:A=none)(hl:cs.length=l*m)(hm:0<m):l=0:=by
 rcases Nat.eq_zero_or_pos l with h0|h0
 ·exact h0
 ·obtain⟨g,b,e⟩:=h.addr (by rw[hl];exact Nat.mul_pos h0 hm);rw[hA]at e;cases e
theorem ER{A:Option Addr}{l c m i e:Nat}{xs sp:List Value}(h:Hp w H)(hi:H[i]? =some (ab A,Cl (xs++sp) e))(ho:Ow A l c m xs sp): ∀ad,A=some ad→ ∀j u,xs[j]? =some u→w.cell? (ad.add j)=some u:=fun ad hA j u hj=>by
 subst hA;rcases ho.2 with⟨h0,_⟩|⟨g,e1,_⟩
 ·cases h0
 injection e1 with e1;subst e1;rw[Addr.add_mid,Nat.zero_add];exact i6 h hi (by rw[List.getElem?_append_left (List.getElem?_eq_some_iff.1 hj).1];exact hj)
theorem uO{A:Option Addr}{l c m:Nat}{xs sp:List Value}(ho:Ow A l c m xs sp)(h:A=none):l=0:=by
 rcases ho.2 with⟨_,h0,_⟩|⟨g,e1,_⟩
 ·exact h0
 ·rw[h]at e1;cases e1
end
theorem Jm{α:Type}{enc:α→List Value}{m:Nat}(hm: ∀x,(enc x).length=m)(l:List α)(sp:List Value){k:Nat}(u:α)(hk:k<l.length):(l.flatMap enc++sp).take (0+k*m)++enc u++(l.flatMap enc++sp).drop (0+k*m+(enc u).length)=(l.set k u).flatMap enc++sp:=by
 have hlen:=bc hm l;have hle:(k+1)*m≤l.length*m:=Nat.mul_le_mul_right m hk;rw[Nat.zero_add,hm,show k*m+m=(k+1)*m by rw[Nat.add_mul,Nat.one_mul],List.take_append_of_le_length (by rw[hlen];exact Nat.mul_le_mul_right m (by omega)),List.drop_append_of_le_length (by rw[hlen];exact hle),lC hm,lB hm,List.set_eq_take_append_cons_drop,if_pos hk];simp
section
variable [bB] {P:Program} {n:Nat} {env:aI} {w:World} {o:Oper} {K:aI→World→Prop} {H:bZ}
theorem Jn{α:Type}{enc:α→List Value}{xs ys:List α}{t ty' e m by' c i sc:Nat}{x y:Operand}{A B:Option Addr}{sp z:List Value}(ho:o.op= .call {callee:= .builtin .append,args:= #[x,y],argTypes:= #[t,ty']})(hty:ty'=t){d:Nat}(hd:o.dst=some d)(hn:Nat.blt d n=true)
  (hx:env.ev x=some (.slice A xs.length c)) (hy:env.ev y=some (.slice B ys.length sc)) (ht:aq P t=some (e,m)) (hz:zeroCells P e=some z) (hzl:z.length=m) (hby:(P.info? e).map (·.bytes)=some by') (hm:0<m) (hlen: ∀x,(enc x).length=m)
  (how:Ow A xs.length c m (xs.flatMap enc) sp) (h:Hp w H) (hi:H[i]? =some (ab A,Cl (xs.flatMap enc++sp) e)) (hsrc: ∀ad,B=some ad→ ∀j u,(ys.flatMap enc)[j]? =some u→w.cell? (ad.add j)=some u) (hB:B=none→ys.length=0) (h1: ∀x,∀v∈enc x,v.oneCell'=true)
  (h63:xs.length+ys.length≤maxLen) (hbytes:(xs.length+ys.length)*by'≤140737488355328)
  (hK: ∀A' c' sp' w',Ow A' (xs++ys).length c' m ((xs++ys).flatMap enc) sp'→Hp w' (H.set i (ab A',Cl ((xs++ys).flatMap enc++sp') e))→Fr (ab A).toList w w'→(∀g,ab A'=some g→ab A=some g∨w.heap.size≤g)→K ((d,(.slice A' (xs++ys).length c'))::env) w'):bH P n env w o K:=
 kN ho hty hd hn hx hy ht hz hzl hby hm how h hi (bc hlen ys) hsrc hB (fun v hv=>by obtain⟨x,_,hx⟩:=List.mem_flatMap.1 hv;exact h1 x v hx) h63 hbytes fun A' c' sp' w' a b c d=>by
  rw[←List.flatMap_append]at a b;rw[←List.length_append]at a⊢;exact hK A' c' sp' w' a b c d
theorem qc{α:Type}{enc:α→List Value}{t g i ty l c m:Nat}{x y:Operand}{v:Value}{xs:List α}{sp:List Value}{q:Int}{u:α}(ho:o.op= .store t x y)(hd:o.dst=none)(hx:env.ev x=some (.pointer (some ⟨g,0+q.toNat*m,none⟩)))(hy:env.ev y=some v)
  (hv:v.cells.toList=enc u) (hm: ∀x,(enc x).length=m) (ht:(P.info? t).map (·.size)=some m) (h1: ∀v∈enc u,v.oneCell'=true) (how:Ow (some ⟨g,0,none⟩) l c m (xs.flatMap enc) sp) (h:Hp w H) (hi:H[i]? =some (ab (some ⟨g,0,none⟩),Cl (xs.flatMap enc++sp) ty)) (h0:0≤q) (hq:q<xs.length) (hm0:0<m)
  (hk: ∀w',Ow (some ⟨g,0,none⟩) (xs.set q.toNat u).length c m ((xs.set q.toNat u).flatMap enc) sp→Hp w' (H.set i (ab (some ⟨g,0,none⟩),Cl ((xs.set q.toNat u).flatMap enc++sp) ty))→Fr [g] w w'→K env w'):bH P n env w o K:=by
 have hql:q.toNat<xs.length:=by omega
 have hlen:=bc hm xs;have hle:(q.toNat+1)*m≤xs.length*m:=Nat.mul_le_mul_right m hql;have e2:(q.toNat+1)*m=q.toNat*m+m:=by rw[Nat.add_mul,Nat.one_mul]
 refine fX (vs:=enc u) ho hd hx hy hv (by rw[hm];exact ht) h1 h hi (by rw[hm,List.length_append,hlen];omega) fun w' hp hf _=>?_;rw[Jm hm xs sp u hql]at hp;refine hk w' ⟨by rw[bc hm],?_⟩ hp hf;rcases how.2 with⟨h2,_⟩|⟨g',e,h3,h4,h5⟩
 ·cases h2
 ·refine .inr ⟨g',e,?_,?_,h5⟩
  ·rw[←h3,List.length_append,List.length_append,bc hm,hlen,List.length_set]
  ·have hl:=how.1;rw[hlen]at hl;rw[List.length_set];have:=Nat.eq_of_mul_eq_mul_right hm0 hl;omega
end
theorem St.conv{X:List Nat}{w:World}{H:bZ}{K:List Kf}{i ty:Nat}{k:Option Nat}{cs cs':List Value}(h:St X w H K)(hi:H[i]? =some (k,Cl cs ty))(he:cs=cs'):St X w (H.set i (k,Cl cs' ty)) K:=by
 subst he;have:H.set i (k,Cl cs ty)=H:=by
  apply List.ext_getElem?;intro j;rw[List.getElem?_set];by_cases e:i=j
  ·subst e;obtain⟨hl,hi'⟩:=List.getElem?_eq_some_iff.1 hi;simp[hl,hi']
  ·simp[e]
 rw[this];exact h
theorem St.callN{X:List Nat}{w w':World}{H H1:bZ}{K K1:List Kf}(h:St X w H K)(hs:St (aQ H++X) w' H1 K1)(hf:Fr [] w w')(hk: ∀k∈aQ H1,w.heap.size≤k):St X w' (H++H1) (K++K1):=by
 have h1:=h.step (h.hp.add ⟨hf,hs.hp,hk⟩) hf (by simp) fun k hk'=>by
  rw[gJ]at hk';rcases List.mem_append.1 hk' with h2|h2
  ·exact .inl h2
  ·exact .inr (hk k h2)
 refine⟨h1.hp,fun k hk'=>?_,h1.lo,h1.dj⟩;rcases List.mem_append.1 hk' with hk'|hk'
 ·exact h1.kr k hk'
 ·refine k.sub (hs.kr k hk') fun y hy=>?_;rw[gJ]at hy;simp only[List.mem_append]at hy⊢;rcases hy with(hy|hy)|hy
  ·exact .inr (.inl hy)
  ·exact .inl hy
  ·exact .inr (.inr hy)
section
variable [bB] {P:Program} {n:Nat} {env:aI} {w:World} {o:Oper} {K:aI→World→Prop} {H:bZ}
omit [bB]in
theorem uP{α:Type}{enc:α→List Value}(u:α)(k:Nat):(List.replicate k u).flatMap enc=(List.replicate k (enc u)).flatten:=by
 induction k with
 |zero=>rfl
 |succ k ih=>rw[List.replicate_succ,List.replicate_succ,List.flatMap_cons,List.flatten_cons,ih]
end
theorem ES [bB]{P:Program}{n:Nat}{y:Code}{Q:EQ}{K:aI→World→Prop}{G:Prop}(hK: ∀e v,Wp P n y Q e v→K e v)(M:aI→World→Prop)(hM: ∀e w,M e w→Wp P n y Q e w)
  (hG:(∀e' e w,aI.Le e e'→M e w→K e' w)→G):G:=hG fun e' e w hl hm=>hK e' w (xN e hl (hM e w hm))
section
variable [bB] {P:Program} {n:Nat} {env:aI} {S:World→Prop} {o:Oper}
theorem Jo{t:Nat}{x i:Operand}{p:List UInt8}{k:IntKind}{q:Int}(ho:o.op= .index t x i)(hx:env.ev x=some (sv p))(hi:env.ev i=some (.int k q))(ht:P.underlying t=some .string)(h0:0≤q)(h1:q<p.length):ci P n env S o (.int .u8 ((ix p q).toNat:Int)):=by
 have hl:q.toNat<p.length:=by omega
 have:=LN (P:=P) (n:=n) (S:=S) ho hx hi ht h0 (List.getElem?_eq_getElem hl);have e:ix p q=p[q.toNat]:=by unfold ix;rw[List.getElem?_eq_getElem hl];rfl
 rw[e];exact this
theorem C4{α:Type}{enc:α→List Value}{m:Nat}{X:List Nat}{w:World}{A:Option Addr}{c:Nat}{l:List α}{p q:Int}(hm: ∀x,(enc x).length=m)(hm0:0<m)(h:hZ X w A l.length c m (l.flatMap enc))(h0:0≤p)(h1:p≤q)(h2:q≤l.length):
  ∃A' c',hZ X w A' ((l.take q.toNat).drop p.toNat).length c' m (((l.take q.toNat).drop p.toNat).flatMap enc)∧
   ∀{P:Program} {n:Nat} {env:aI} {S:World→Prop} {o:Oper} {t e:Nat} {x:Operand} {lo hi:Option Operand},o.op= .slice t x lo hi none→env.ev x=some (.slice A l.length c)→aq P t=some (e,m)→iW env lo=some p→iX env l.length hi=some q→
    ci P n env S o (.slice A' ((l.take q.toNat).drop p.toNat).length c'):=by
 have hlen:((l.take q.toNat).drop p.toNat).length=q.toNat - p.toNat:=by
  rw[List.length_drop,List.length_take];omega
 refine⟨if c=p.toNat then A else A.map (·.add (p.toNat*m)),c - p.toNat,⟨?_,bc hm _,by rw[hlen];have:=h.lc;omega,Nat.le_trans (Nat.sub_le _ _) h.cm⟩,?_⟩
 ·rcases Nat.eq_zero_or_pos ((l.take q.toNat).drop p.toNat).length with e0|e0
  ·rw[List.eq_nil_of_length_eq_zero e0];exact mo.nil
  ·rw[hlen]at e0;have hlc:=h.lc;rw[if_neg (by omega)];obtain⟨g,b,rfl⟩:=h.rd.addr (by rw[bc hm];exact Nat.mul_pos (by omega) hm0);have hr:=(h.rd.drop (p.toNat*m)).take ((q.toNat - p.toNat)*m);rw[lB hm,lC hm]at hr;have e1:(l.take q.toNat).drop p.toNat=(l.drop p.toNat).take (q.toNat - p.toNat):=List.drop_take ..;rw[e1];simpa[Addr.add_mid]using hr
 ·intro P n env S o t e x lo hi ho hx ht hlo hhi;rw[hlen];exact ml ho hx ht hlo hhi h0 h1 (by have:=h.lc;omega) h.lc
theorem Bk{t f ft off k:Nat}{x:Operand}{us ds:List Value}(ho:o.op= .field t x f)(hx:env.ev x=some (.agg us.toArray))(hf:eP P t f=some off)(hft:(match P.underlying t with|some (.struct fs)=>(fs[f]?).map (·.type)|_=>none)=some ft)(hp:ba P ft=some k)(hv:(us.drop off).take k=ds)(hl:ds.length=k):ci P n env S o (.agg ds.toArray):=fun a r w _=>by
 unfold eP at hf;split at hf<;>try (cases hf;done)
 rename_i fs hu;simp only[hu]at hft;split at hf<;>try (cases hf;done)
 rename_i fd hfd;simp only[hfd,Option.map_some,Option.some.injEq]at hft;split at hf<;>try (cases hf;done)
 rename_i i hi;split at hf
 ·cases hf
 ·injection hf with hf;subst hf;subst hft;have hA:(isAgg fd.type).run P w= .ok true w:=by
   unfold ba at hp;cases hu':P.underlying fd.type with
   |none=>simp[hu']at hp
   |some d=>
    unfold isAgg;simp only[Sem.run_bind,run_underlying hu',Result.andThen_ok];cases d<;>simp[hu']at hp<;>rfl
  have hs:(P.info? fd.type).map (·.size)=some k:=by
   unfold ba at hp;split at hp<;>first|exact hp|(cases hp;done)
  have hz:(sizeOf fd.type).run P w= .ok k w:=bX hs w;unfold execOp;simp[ho,r.eval hx,Instr.field,run_underlying hu,hfd,asAgg,part,hA,hz];rw[←hv]
end
end Go.Proofs.YtmpeiadlohbikaaGreatDoor
end

section
set_option linter.unusedVariables false
set_option linter.unusedSimpArgs false
namespace Go.Proofs.YtmpeiadlohbikaaGreatDoor
open Go.RowKit
def A9(P:Program)(rc:TypeId→List Value→List Value→Option Bool):List Field→List Value→List Value→Option Bool
 | [],_,_=>some true
 |f::fs,xs,ys=>if f.name≠ "_" then match (P.info? f.type).map (·.size)with
  |some k=>match rc f.type ((xs.drop f.offset).take k) ((ys.drop f.offset).take k),A9 P rc fs xs ys with
   |some a,some b=>some (a&&b)
   |_,_=>none
  |none=>none else none
def yG(rc:List Value→List Value→Option Bool)(k:Nat):List Nat→List Value→List Value→Option Bool
 | [],_,_=>some true
 |i::is,xs,ys=>match rc ((xs.drop (i*k)).take k) ((ys.drop (i*k)).take k),yG rc k is xs ys with
  |some a,some b=>some (a&&b)
  |_,_=>none
def aY(P:Program):Nat→TypeId→List Value→List Value→Option Bool
 |0,_,_,_=>none
 |d+1,t,xs,ys=>match P.underlying t with
  |some (.int _)=>match xs,ys with
   | [.int k a],[.int k' b]=>if k=k' then some (a==b)else none
   |_,_=>none
  |some .string=>match xs,ys with
   | [.string a],[.string b]=>some (a.data.toList==b.data.toList)
   |_,_=>none
  |some .bool=>match xs,ys with
   | [.bool a],[.bool b]=>some (a==b)
   |_,_=>none
  |some (.struct fs)=>if P.stoodInHeld t=false∧xs.length=P.cellsOf t∧ys.length=P.cellsOf t then A9 P (aY P d) fs.toList xs ys else none
  |some (.array n e)=>if 0<n∧xs.length=P.cellsOf t∧ys.length=P.cellsOf t then yG (aY P d e) (P.cellsOf e) (List.range n) xs ys else none
  |_=>none
def j3(P:Program)(t:TypeId)(cs:List Value)(v:Value):Prop:=match P.underlying t with
 |some (.struct _)|some (.array _ _)=>v= .agg cs.toArray
 |_=>cs= [v]
theorem gZ{P:Program}{t k:Nat}{xs:List Value}{off:Nat}(hk:(P.info? t).map (·.size)=some k)(w:World)(hne: ∀d:TypeDesc,P.underlying t=some d→(match d with| .struct _| .array _ _=>True|_=> ∃v,(xs.drop off).take k= [v]))(hu: ∃d,P.underlying t=some d):
  ∃v,(part t xs.toArray off).run P w= .ok v w∧j3 P t ((xs.drop off).take k) v:=by
 obtain⟨d,hd⟩:=hu;have h1:=hne d hd;have hz:=bX hk w;by_cases ha:(∃fs,d= .struct fs)∨(∃n e,d= .array n e)
 ·refine⟨.agg ((xs.drop off).take k).toArray,?_,?_⟩
  ·have hA:(isAgg t).run P w= .ok true w:=by
    unfold isAgg;simp only[Sem.run_bind,run_underlying hd,Result.andThen_ok];rcases ha with⟨fs,rfl⟩|⟨n,e,rfl⟩<;>rfl
   have he:xs.toArray.extract off (off+k)=((xs.drop off).take k).toArray:=by rw[List.extract_toArray,List.extract];simp
   simp[part,hA,hz]
  ·unfold j3;rw[hd];rcases ha with⟨fs,rfl⟩|⟨n,e,rfl⟩<;>rfl
 ·have h2: ∃v,(xs.drop off).take k= [v]:=by
   cases d<;>first|exact h1|(exact absurd (.inl ⟨_,rfl⟩) ha)|(exact absurd (.inr ⟨_,_,rfl⟩) ha)
  obtain⟨v,hv⟩:=h2;refine⟨v,?_,?_⟩
  ·have hA:(isAgg t).run P w= .ok false w:=by
    unfold isAgg;simp only[Sem.run_bind,run_underlying hd,Result.andThen_ok];cases d<;>first|rfl|(exact absurd (.inl ⟨_,rfl⟩) ha)|(exact absurd (.inr ⟨_,_,rfl⟩) ha)
   have hg:xs.toArray[off]? =some v:=by
    have:((xs.drop off).take k)[0]? =some v:=by rw[hv];rfl
    rw[List.getElem?_take]at this;split at this
    ·simpa using this
    ·cases this
   simp[part,hA,hg]
  ·unfold j3;rw[hd];cases d<;>first|exact hv|(exact absurd (.inl ⟨_,rfl⟩) ha)|(exact absurd (.inr ⟨_,_,rfl⟩) ha)
theorem mj{P:Program}{d:Nat}{t:TypeId}{xs ys:List Value}{b:Bool}(h:aY P d t xs ys=some b):(∃dd,P.underlying t=some dd)∧ ∀dd:TypeDesc,P.underlying t=some dd→(match dd with| .struct _| .array _ _=>True|_=> ∃v,xs= [v])∧(match dd with| .struct _| .array _ _=>True|_=> ∃v,ys= [v]):=by
 cases d with
 |zero=>cases h
 |succ d=>
  unfold aY at h;split at h
  ·rename_i k hu;refine⟨⟨_,hu⟩,fun dd e=>?_⟩;rw[hu]at e;injection e with e;subst e;split at h
   ·exact⟨⟨_,rfl⟩,_,rfl⟩
   ·cases h
  ·rename_i hu;refine⟨⟨_,hu⟩,fun dd e=>?_⟩;rw[hu]at e;injection e with e;subst e;split at h
   ·exact⟨⟨_,rfl⟩,_,rfl⟩
   ·cases h
  ·rename_i hu;refine⟨⟨_,hu⟩,fun dd e=>?_⟩;rw[hu]at e;injection e with e;subst e;split at h
   ·exact⟨⟨_,rfl⟩,_,rfl⟩
   ·cases h
  ·rename_i hu;refine⟨⟨_,hu⟩,fun dd e=>?_⟩;rw[hu]at e;injection e with e;subst e;exact⟨trivial,trivial⟩
  ·rename_i hu;refine⟨⟨_,hu⟩,fun dd e=>?_⟩;rw[hu]at e;injection e with e;subst e;exact⟨trivial,trivial⟩
  ·cases h
theorem iv{P:Program}: ∀(d:Nat) (t:TypeId) (xs ys:List Value) (b:Bool),aY P d t xs ys=some b→ ∀(x y:Value),j3 P t xs x→j3 P t ys y→ ∀(k:Nat) (w:World),(Op.equalIn (k+d) t x y).run P w= .ok b w
 |0,t,xs,ys,b,h,x,y,hx,hy,k,w=>by cases h
 |d+1,t,xs,ys,b,h,x,y,hx,hy,k,w=>by
  unfold aY at h;unfold j3 at hx hy;split at h
  ·rename_i kk hu;rw[hu]at hx hy;simp only at hx hy;subst hx;subst hy;split at h
   ·rename_i k1 a k2 b1 h1 h2;simp only[List.cons.injEq,and_true]at h1 h2;subst h1;subst h2;split at h
    ·rename_i e;subst e;injection h with h;subst h;exact run_equalIn_int w (k+d) t k1 kk a b1 hu
    ·cases h
   ·cases h
  ·rename_i hu;rw[hu]at hx hy;simp only at hx hy;subst hx;subst hy;split at h
   ·rename_i a b1 h1 h2;simp only[List.cons.injEq,and_true]at h1 h2;subst h1;subst h2;injection h with h;subst h;have:=run_equalIn_string w (k+d) t a b1 hu;rw[ByteArray.toList_eq,ByteArray.toList_eq]at this;exact this
   ·cases h
  ·rename_i hu;rw[hu]at hx hy;simp only at hx hy;subst hx;subst hy;split at h
   ·rename_i a b1 h1 h2;simp only[List.cons.injEq,and_true]at h1 h2;subst h1;subst h2;injection h with h;subst h;exact run_equalIn_bool' w (k+d) t a b1 hu
   ·cases h
  ·rename_i fs hu;rw[hu]at hx hy;simp only at hx hy;subst hx;subst hy;split at h
   ·rename_i hc;have hf:P.fieldsOf t=fs:=by simp[Program.fieldsOf,hu]
    rw[show k+(d+1)=(k+d)+1 from rfl,run_equalIn_struct w (k+d) t _ _ (by rw[hf];exact hu) hc.1,hf];have key: ∀(fs:List Field) (b:Bool),A9 P (aY P d) fs xs ys=some b→(Op.eqFields (k+d) xs.toArray ys.toArray fs).run P w= .ok b w:=by
     intro fs;induction fs with
     |nil=>intro b hb;simp only[A9,Option.some.injEq]at hb;subst hb;simp[Op.eqFields]
     |cons f fs ih=>
      intro b hb;unfold A9 at hb;split at hb
      ·rename_i hn;split at hb
       ·rename_i sz hsz;split at hb
        ·rename_i a1 b1 ha hb1;injection hb with hb;subst hb;obtain⟨hex,hone⟩:=mj ha;obtain⟨vx,px,qx⟩:=gZ (xs:=xs) (off:=f.offset) hsz w (fun dd e=>(hone dd e).1) hex;obtain⟨vy,py,qy⟩:=gZ (xs:=ys) (off:=f.offset) hsz w (fun dd e=>(hone dd e).2) hex;have hq:=iv d f.type _ _ a1 ha vx vy qx qy k w;have hih:=ih b1 hb1;unfold Op.eqFields;rw[if_pos hn];simp only[Sem.run_bind,px,py,Result.andThen_ok,hq];cases a1
         ·simp
         ·simpa using hih
        ·cases hb
       ·cases hb
      ·cases hb
    exact key _ _ h
   ·cases h
  ·rename_i n e hu;rw[hu]at hx hy;simp only at hx hy;subst hx;subst hy;split at h
   ·rename_i hc;have hinfo: ∃i,P.info? e=some i:=by
     obtain⟨n',rfl⟩: ∃q,n=q+1:=⟨n - 1,by omega⟩;rw[List.range_succ_eq_map]at h;unfold yG at h;split at h
     ·rename_i a1 b1 ha _;obtain⟨⟨dd,hdd⟩,_⟩:=mj ha;exact info_of_underlying hdd
     ·cases h
    have key: ∀(i:TypeInfo),P.info? e=some i→ ∀(is:List Nat) (b:Bool),yG (aY P d e) (P.cellsOf e) is xs ys=some b→(Op.eqItems (k+d) e (P.cellsOf e) xs.toArray ys.toArray is).run P w= .ok b w:=by
     intro inf hi is;induction is with
     |nil=>intro b hb;simp only[yG,Option.some.injEq]at hb;subst hb;simp[Op.eqItems]
     |cons i is ih=>
      intro b hb;unfold yG at hb;split at hb
      ·rename_i a1 b1 ha hb1;injection hb with hb;subst hb;have hsz:(P.info? e).map (·.size)=some (P.cellsOf e):=by simp[Program.cellsOf,hi]
       obtain⟨hex,hone⟩:=mj ha;obtain⟨vx,px,qx⟩:=gZ (xs:=xs) (off:=i*P.cellsOf e) hsz w (fun dd e=>(hone dd e).1) hex;obtain⟨vy,py,qy⟩:=gZ (xs:=ys) (off:=i*P.cellsOf e) hsz w (fun dd e=>(hone dd e).2) hex;have hq:=iv d e _ _ a1 ha vx vy qx qy k w;have hih:=ih b1 hb1;unfold Op.eqItems;simp only[Sem.run_bind,px,py,Result.andThen_ok,hq];cases a1
       ·simp
       ·simpa using hih
      ·cases hb
    obtain⟨i,hi⟩:=hinfo;rw[show k+(d+1)=(k+d)+1 from rfl,run_equalIn_array w (k+d) _ _ hu hi];exact key i hi _ _ h
   ·cases h
  ·cases h
section
variable [bB] {P:Program} {n:Nat} {env:aI} {S:World→Prop} {o:Oper}
theorem Gu{x y:Operand}{t u:Nat}{xs ys:List Value}{b:Bool}(ho:o.op= .binOp .eql t x y u)(hx:env.ev x=some (.agg xs.toArray))(hy:env.ev y=some (.agg ys.toArray))(hg:P.eqGuardType P.depth t=false)(hv:ba P t≠none)(he:aY P 8 t xs ys=some b):ci P n env S o (.bool b):=fun a r w _=>by
 have hval: ∀cs:List Value,j3 P t cs (.agg cs.toArray):=fun cs=>by
  unfold j3;unfold ba at hv;cases hu:P.underlying t with
  |none=>simp[hu]at hv
  |some d=>cases d<;>first|rfl|(simp[hu]at hv;done)
 have h:=iv 8 t xs ys b he _ _ (hval xs) (hval ys) 9992 w;have hge:=run_eqGuard_agg (P:=P) w .eql t x y xs.toArray ys.toArray hg;unfold execOp;simp only[ho,r.eval hx,r.eval hy,Sem.run_bind,hge,Result.andThen_ok,binOp];simp only[Op.equal,Op.maxDepth,h,Result.andThen_ok];rfl
theorem Gw{x y:Operand}{t u:Nat}{xs ys:List Value}{b:Bool}(ho:o.op= .binOp .neq t x y u)(hx:env.ev x=some (.agg xs.toArray))(hy:env.ev y=some (.agg ys.toArray))(hg:P.eqGuardType P.depth t=false)(hv:ba P t≠none)(he:aY P 8 t xs ys=some b):ci P n env S o (.bool !b):=fun a r w _=>by
 have hval: ∀cs:List Value,j3 P t cs (.agg cs.toArray):=fun cs=>by
  unfold j3;unfold ba at hv;cases hu:P.underlying t with
  |none=>simp[hu]at hv
  |some d=>cases d<;>first|rfl|(simp[hu]at hv;done)
 have h:=iv 8 t xs ys b he _ _ (hval xs) (hval ys) 9992 w;have hge:=run_eqGuard_agg (P:=P) w .neq t x y xs.toArray ys.toArray hg;unfold execOp;simp only[ho,r.eval hx,r.eval hy,Sem.run_bind,hge,Result.andThen_ok,binOp];simp only[Op.equal,Op.maxDepth,h,Result.andThen_ok];rfl
end
def pZ(P:Program)(fv:Value)(args:List Value)(w:World)(Post:Value→World→Prop):Prop:= ∃(f:FuncId) (fi ca:List Value),fv= .func (.func f) fi.toArray ca.toArray∧Fn P f (fi++(args++ca)) w Post
theorem pZ.of{P:Program}{f:FuncId}{args:List Value}{w:World}{Post:Value→World→Prop}(h:Fn P f args w Post):pZ P (.func (.func f) #[] #[]) args w Post:=⟨f,[],[],rfl,by simpa using h⟩
theorem pZ.ofc{P:Program}{f:FuncId}{args:List Value}{w:World}{Post:Value→World→Prop}(ca:List Value)(h:Fn P f (args++ca) w Post):pZ P (.func (.func f) #[] ca.toArray) args w Post:=⟨f,[],ca,rfl,by simpa using h⟩
section
variable [bB] {P:Program} {n:Nat} {env:aI} {w:World} {o:Oper} {K:aI→World→Prop}
theorem m7{fx:Operand}{fv:Value}{xs:List Operand}{ts:Array TypeId}{vs:List Value}{Post:Value→World→Prop}(ho:o.op= .call {callee:= .value fx,args:=xs.toArray,argTypes:=ts}){d:Nat}(hd:o.dst=some d)(hn:Nat.blt d n=true)
  (hfx:env.ev fx=some fv) (hx:env.evs xs=some vs) (hc:pZ P fv vs w Post) (hk: ∀v w',Post v w'→K ((d,v)::env) w'):bH P n env w o K:=fun a r=>by
 obtain⟨f,fi,ca,rfl,hc⟩:=hc;have e:(xs.toArray.map a.eval)=vs.toArray:=by rw[List.map_toArray,r.evals hx]
 have hrun:(execOp a.eval o).run P w= .ok (.enter f (fi++(vs++ca)).toArray) w:=by
  have h1:=hc.1;unfold aF at h1;cases hq:P.funcs[f]? with
  |none=>simp[hq]at h1
  |some fn=>
   simp only[hq,Bool.and_eq_true,Bool.not_eq_true',beq_eq_false_iff_ne]at h1;obtain⟨h2,h3⟩:=h1;have h4: ¬fn.body=none:=by intro hbb;simp[hbb]at h3
   unfold execOp;simp only[ho,resolve,e,r.eval hfx,Deferred.ofValue,Sem.run_bind,Sem.run_pure,Result.andThen_ok,invoke];simp[callFunc,hq,h2,h4]
 unfold Oper.wp;rw[hrun];refine Calls.mono hc.2 fun e w' ⟨v,he,hv⟩=>?_;subst he;have r':=r.put hn v;rw[←hd]at r';exact⟨_,r',hk v w' hv⟩
end
theorem I8 [bB]{P:Program}{n:Nat}{env:aI}{S:World→Prop}{o:Oper}{fn:Go.Fn}{fs cs:List Operand}{vf vc:List Value}(ho:o.op= .makeFunc fn fs.toArray cs.toArray)(hf:env.evs fs=some vf)(hc:env.evs cs=some vc):ci P n env S o (.func fn vf.toArray vc.toArray):=fun a r w _=>by
 have e1:(fs.toArray.map a.eval)=vf.toArray:=by rw[List.map_toArray,r.evals hf]
 have e2:(cs.toArray.map a.eval)=vc.toArray:=by rw[List.map_toArray,r.evals hc]
 unfold execOp;simp only[ho,e1,e2];rfl
theorem hZ.isNil{α:Type}{enc:α→List Value}{X:List Nat}{w:World}{A:Option Addr}{c m:Nat}{l:List α}(h:hZ X w A l.length c m (l.flatMap enc))(hm:0<m)(hA:A.isNone=true):l= []:=by
 have hA:A=none:=by simpa using hA
 have:=nh h.rd hA h.len hm;exact List.eq_nil_of_length_eq_zero this
theorem Kp{α:Type} [BEq α] [LawfulBEq α]{a b:α}(h:(a !=b)=false):a=b:=by simpa using h
section
variable [bB] {P:Program} {n:Nat} {ops:Array Oper} {Q:EQ} {l:List Oper} {pl:List (Bool×Nat)} {o:Oper} {env:aI} {w:World} {S:World→Prop} {d i:Nat} {x:Operand} {v:Value}
theorem UL(hg:o.guard=none)(hd:o.dst=some d)(hn:Nat.blt d n=true)(ho:o.op= .move x)(hx:env.ev x=some v)(hk:Ls P n ops Q l ((d,v)::env) w):Ls P n ops Q (o::l) env w:=EZ (fN hg) hd hn (jT ho hx) hk
theorem UM(hg:o.guard=none)(hd:o.dst=some d)(hn:Nat.blt d n=true)(ho:o.op= .assign x)(hx:env.ev x=some v)(hk:Ls P n ops Q l ((d,v)::env) w):Ls P n ops Q (o::l) env w:=EZ (fN hg) hd hn (nl ho hx) hk
theorem UN{i:Nat}{vs:Array Value}(hg:o.guard=none)(hd:o.dst=some d)(hn:Nat.blt d n=true)(ho:o.op= .extract x i)(hx:env.ev x=some (.tuple vs))(hv:vs[i]? =some v)(hk:Ls P n ops Q l ((d,v)::env) w):Ls P n ops Q (o::l) env w:=EZ (fN hg) hd hn (GB ho hx hv) hk
theorem UO(hi:ops[i]? =some o)(hg:o.guard=none)(hd:o.dst=some d)(hn:Nat.blt d n=true)(ho:o.op= .move x)(hx:env.ev x=some v)(hk:Pl P n ops S Q pl ((d,v)::env) w):Pl P n ops S Q ((true,i)::pl) env w:=te hi (fN hg) hd hn (jT ho hx) hk
end
end Go.Proofs.YtmpeiadlohbikaaGreatDoor
end

section
namespace Go.Proofs.YtmpeiadlohbikaaGreatDoor
open Go.MapKept
structure Mk(d:TypeDesc)(es:Array MapEntry)(clock:Nat)(f:Value→Option Value):Prop where
 st:Stamped es clock
 ks: ∀x∈es.toList,IsKey d x.key
 get: ∀k v,f k=some v↔ ∃x∈es.toList,x.key=k∧x.val=v
open Classical in
noncomputable def yN (f:Value→Option Value) (k v:Value):Value→Option Value:=fun k'=>if k'=k then some v else f k'
theorem rD(f:Value→Option Value)(k v:Value):yN f k v k=some v:=by simp[yN]
theorem xM(f:Value→Option Value){k k':Value}(v:Value)(h:k'≠k):yN f k v k'=f k':=by simp[yN,h]
theorem Mk.empty(d:TypeDesc):Mk d #[] 0 (fun _=>none):=⟨stamped_empty 0,by simp,by simp⟩
theorem Mk.none_{d:TypeDesc}{es:Array MapEntry}{clock:Nat}{f:Value→Option Value}(h:Mk d es clock f){k:Value}(hk: ∀x∈es.toList,x.key≠k):f k=none:=by
 cases hf:f k with
 |none=>rfl
 |some v=>
  obtain⟨x,hx,e,_⟩:=(h.get k v).1 hf;exact absurd e (hk x hx)
theorem Mk.push{d:TypeDesc}{es:Array MapEntry}{clock:Nat}{f:Value→Option Value}(h:Mk d es clock f){k v:Value}(hd:IsKey d k)(hk: ∀x∈es.toList,x.key≠k):Mk d (es.push {key:=k,val:=v,born:=clock}) (clock+1) (yN f k v):=by
 refine⟨stamped_push h.st hk,fun x hx=>?_,fun k' v'=>?_⟩
 ·simp only[Array.toList_push,List.mem_append,List.mem_singleton]at hx;rcases hx with hx|rfl
  ·exact h.ks x hx
  ·exact hd
 ·simp only[Array.toList_push,List.mem_append,List.mem_singleton];by_cases e:k'=k
  ·subst e;rw[rD];constructor
   ·intro e;cases e;exact⟨_,.inr rfl,rfl,rfl⟩
   ·rintro⟨x,hx|rfl,h1,h2⟩
    ·exact absurd h1 (hk x hx)
    ·simpa using h2
  ·rw[xM f v e,h.get];constructor
   ·rintro⟨x,hx,h1,h2⟩;exact⟨x,.inl hx,h1,h2⟩
   ·rintro⟨x,hx|rfl,h1,h2⟩
    ·exact⟨x,hx,h1,h2⟩
    ·exact absurd h1.symm e
theorem Mk.modify{d:TypeDesc}{es:Array MapEntry}{clock:Nat}{f:Value→Option Value}(h:Mk d es clock f){k v:Value}{j:Nat}{e:MapEntry}(hj:es[j]? =some e)(he:e.key=k):Mk d (es.modify j fun e=>{e with key:=k,val:=v}) clock (yN f k v):=by
 have hkey: ∀e',es[j]? =some e'→({e' with key:=k,val:=v}:MapEntry).key=e'.key:=fun e' he'=>by rw[hj]at he';cases he';exact he.symm
 have hnd:=h.st.2.2;refine⟨stamped_modify h.st _ _ (fun _ _=>rfl) (fun e' _ he'=>hkey e' he'),isKey_modify h.ks _ _ hkey,fun k' v'=>?_⟩;have hat: ∀i x,(es.modify j fun e=>{e with key:=k,val:=v})[i]? =some x↔(i=j∧x={e with key:=k,val:=v})∨(i≠j∧es[i]? =some x):=fun i x=>by
  rw[Array.getElem?_modify];by_cases hij:j=i
  ·subst hij;simp[hj,eq_comm]
  ·simp[hij,Ne.symm hij]
 have hmem: ∀x,x∈(es.modify j fun e=>{e with key:=k,val:=v}).toList↔x={e with key:=k,val:=v}∨ ∃i,i≠j∧es[i]? =some x:=fun x=>by
  rw[Array.mem_toList_iff,Array.mem_iff_getElem?];constructor
  ·rintro⟨i,hi⟩;rcases(hat i x).1 hi with⟨_,h⟩|⟨h1,h2⟩
   ·exact .inl h
   ·exact .inr ⟨i,h1,h2⟩
  ·rintro(h|⟨i,h1,h2⟩)
   ·exact⟨j,(hat j x).2 (.inl ⟨rfl,h⟩)⟩
   ·exact⟨i,(hat i x).2 (.inr ⟨h1,h2⟩)⟩
 have hne: ∀i x,i≠j→es[i]? =some x→x.key≠k:=fun i x hij hi hxk=>by
  have h1:(es.toList.map (·.key))[i]? =some k:=by simp[hi,hxk]
  have h2:(es.toList.map (·.key))[j]? =some k:=by simp[hj,he]
  have hlt:i<(es.toList.map (·.key)).length:=(List.getElem?_eq_some_iff.1 h1).1;exact hij ((List.getElem?_inj hlt hnd).1 (h1.trans h2.symm))
 by_cases ek:k'=k
 ·subst ek;rw[rD];constructor
  ·intro q;cases q;exact⟨_,(hmem _).2 (.inl rfl),rfl,rfl⟩
  ·rintro⟨x,hx,h1,h2⟩;rcases(hmem x).1 hx with rfl|⟨i,hi,hx⟩
   ·simpa using h2
   ·exact absurd h1 (hne i x hi hx)
 ·rw[xM f v ek,h.get];constructor
  ·rintro⟨x,hx,h1,h2⟩;obtain⟨i,hi⟩:=Array.mem_iff_getElem?.1 (Array.mem_toList_iff.1 hx);refine⟨x,(hmem x).2 (.inr ⟨i,fun q=>?_,hi⟩),h1,h2⟩;subst q;rw[hj]at hi;cases hi;exact ek (h1.symm.trans he)
  ·rintro⟨x,hx,h1,h2⟩;rcases(hmem x).1 hx with rfl|⟨i,_,hx⟩
   ·exact absurd h1.symm ek
   ·exact⟨x,Array.mem_toList_iff.2 (Array.mem_of_getElem? hx),h1,h2⟩
section
variable [bB] {P:Program} {n:Nat} {env:aI} {S:World→Prop} {o:Oper} {w:World} {H:bZ} {K:aI→World→Prop}
omit [bB]in
theorem Fr.setObj{w:World}{g:Nat}{o o':Obj}(h:w.heap[g]? =some o):Fr [g] w {w with heap:=w.heap.setIfInBounds g o'}:=
 ⟨rfl,rfl,rfl,by simp,fun k _ hk=>(MapKept.heap_set h).2 k (by simpa using hk),Nat.le_refl _⟩
theorem EX{t:Nat}(ho:o.op= .makeMap t none){d:Nat}(hd:o.dst=some d)(hn:Nat.blt d n=true)(h:Hp w H)
  (hk: ∀g w',Hp w' (H++ [(some g,.map #[] 0)])→Fr [] w w'→w.heap.size≤g→K ((d,(.map (some g)))::env) w'):bH P n env w o K:=by
 refine fI hd hn (v:= .map (some w.heap.size)) (w':=w.alloc (.map #[] 0)) (fun a r=>?_) (hk _ _ (h.alloc _) (Fr.alloc w _) (Nat.le_refl _));unfold execOp;simp[ho,Instr.makeMap]
def iY(P:Program)(t:Nat):Option Value:=(P.info? t).bind (·.zero)
omit [bB]in
theorem uT{t:Nat}{z:Value}(h:iY P t=some z)(w:World):(zeroValue t).run P w= .ok z w:=by
 unfold iY at h;cases hq:P.info? t with
 |none=>simp[hq]at h
 |some inf=>simp[hq]at h;simp[zeroValue,typeInfo,hq,h]
end
end Go.Proofs.YtmpeiadlohbikaaGreatDoor
end

section
set_option linter.unusedVariables false
set_option linter.unusedSimpArgs false
namespace Go.Proofs.YtmpeiadlohbikaaGreatDoor
open Go.RowKit Go.MapKept
def bO{α β:Type} [DecidableEq α](m:List (α×β))(k:α):Option β:=(m.find? (fun e=>decide (e.1=k))).map (·.2)
def cJ{α β:Type} [DecidableEq α]:List (α×β)→α→β→List (α×β)
 | [],k,v=> [(k,v)]
 |e::r,k,v=>if e.1=k then(k,v)::r else e::cJ r k v
def gP{α β:Type} [DecidableEq α]:List (α×β)→α→List (α×β)
 | [],_=> []
 |e::r,k=>if e.1=k then r else e::gP r k
structure fM{α:Type} [DecidableEq α](P:Program)(kt:TypeId)(enc:α→Value):Prop where
 inj: ∀x y,enc x=enc y→x=y
 chk: ∀em x w,(Instr.checkKey em 10000 kt (enc x)).run P w= .ok () w
 fnd: ∀(x:α) (ks:List α) (es:List MapEntry),es.map (·.key)=ks.map enc→ ∀w,((Instr.findKey kt (enc x) es).run P w= .ok none w∧ ∀k∈ks,k≠x)∨ ∃(j:Nat) (e:MapEntry),(Instr.findKey kt (enc x) es).run P w= .ok (some (j,e.val)) w∧es[j]? =some e∧ks[j]? =some x
 stay: ∀x w,(Instr.keyThatStays (enc x) (enc x)).run P w= .ok (enc x) w
theorem fM.plain{α:Type} [DecidableEq α]{P:Program}{kt:TypeId}{enc:α→Value}{d:TypeDesc}(hu:P.underlying kt=some d)(hk: ∀x,IsKey d (enc x))(inj: ∀x y,enc x=enc y→x=y):fM P kt enc:=
 ⟨inj,fun em x w=>run_checkKey hu (hk x) em 9999,fun x ks es he w=>by
  have hks: ∀e∈es,IsKey d e.key:=fun e hx=>by
   have:e.key∈ks.map enc:=by rw[←he];exact List.mem_map_of_mem hx
   obtain⟨y,_,hy⟩:=List.mem_map.1 this;rw[←hy];exact hk y
  rcases findNow_spec (hk x) es 0 hks with⟨h1,h2⟩|⟨j,e,h1,h2,h3⟩
  ·refine .inl ⟨run_findKey hu h1,fun k hk' e=>?_⟩;subst e;have:enc k∈es.map (·.key):=by rw[he];exact List.mem_map_of_mem hk'
   obtain⟨y,hy,e2⟩:=List.mem_map.1 this;exact h2 y hy e2
  ·refine .inr ⟨j,e,?_,h2,?_⟩
   ·have:=run_findKey (P:=P) (w:=w) hu h1;rw[Nat.zero_add]at this;exact this
   ·have h4:(es.map (·.key))[j]? =some (enc x):=by rw[List.getElem?_map,h2];simp[h3]
    rw[he,List.getElem?_map]at h4;cases hj:ks[j]? with
    |none=>rw[hj]at h4;cases h4
    |some y=>rw[hj]at h4;simp at h4;rw[inj _ _ h4],fun x w=>run_keyThatStays (hk x)⟩
theorem fM.int{P:Program}{kt:TypeId}{k:IntKind}(hu:P.underlying kt=some (.int k)):fM P kt (fun x:Int=> .int k x):=fM.plain hu (fun _=>rfl) (by intro x y h;injection h)
theorem fM.str{P:Program}{kt:TypeId}(hu:P.underlying kt=some .string):fM P kt (fun x:List UInt8=>sv x):=fM.plain hu (fun _=>trivial) (by intro x y h;injection h with h;injection h with h;simpa using h)
theorem fM.bool{P:Program}{kt:TypeId}(hu:P.underlying kt=some .bool):fM P kt (fun x:Bool=> .bool x):=fM.plain hu (fun _=>trivial) (by intro x y h;injection h)
def uQ:Value→Bool
 | .int _ _| .bool _| .string _=>true
 |_=>false
theorem EV{v:Value}(h:uQ v=true)(n:Nat):Instr.sameBits n v v=true:=by
 cases v<;>simp[uQ]at h<;>cases n<;>simp[Instr.sameBits,bytes_beq]
theorem Bn(n:Nat)(cs:List Value)(h: ∀v∈cs,uQ v=true):Instr.sameBits (n+1) (.agg cs.toArray) (.agg cs.toArray)=true:=by
 unfold Instr.sameBits;simp only[BEq.rfl,Bool.true_and,List.all_eq_true];intro p hp;have:p.1=p.2∧p.1∈cs:=by
  clear h;revert hp;induction cs with
  |nil=>intro hp;simp at hp
  |cons a r ih=>
   intro hp;simp only[List.zip_cons_cons,List.mem_cons]at hp;rcases hp with rfl|hp
   ·simp
   ·obtain⟨h1,h2⟩:=ih hp;exact⟨h1,by simp[h2]⟩
 obtain⟨h1,h2⟩:=this;rw[←h1];exact EV (h _ h2) n
theorem uR{d:TypeDesc}{cs:Array Value}(hd: ∀v,Instr.sameNow d (.agg cs) v=none): ∀(es:List MapEntry) (i:Nat),Instr.findNow d (.agg cs) es i=if es= []then some none else none
 | [],_=>rfl
 |e::r,i=>by simp[Instr.findNow,hd]
theorem fM.agg{α:Type} [DecidableEq α]{P:Program}{kt:TypeId}{enc:α→List Value}{kd:TypeDesc}(hu:P.underlying kt=some kd)(hkd: ∀cs v,Instr.sameNow kd (.agg cs) v=none)(hv:ba P kt≠none)(heq: ∀x y,aY P 8 kt (enc x) (enc y)=some (decide (x=y)))
  (hchk: ∀em x w,(Instr.checkKey em 10000 kt (.agg (enc x).toArray)).run P w= .ok () w) (hfl: ∀x,∀v∈enc x,uQ v=true):fM P kt (fun x=> .agg (enc x).toArray):=by
 have inj: ∀x y,enc x=enc y→x=y:=fun x y e=>by
  have h1:=heq x y;have h2:=heq x x;rw[←e,h2]at h1;simpa using h1
 have hval: ∀cs:List Value,j3 P kt cs (.agg cs.toArray):=fun cs=>by
  unfold j3;unfold ba at hv;cases hu:P.underlying kt with
  |none=>simp[hu]at hv
  |some d=>cases d<;>first|rfl|(simp[hu]at hv;done)
 have hask: ∀(x:α) (ks:List α) (es:List MapEntry) (i:Nat),es.map (·.key)=ks.map (fun x=>Value.agg (enc x).toArray)→ ∀w,((Instr.findAsking kt (.agg (enc x).toArray) es i).run P w= .ok none w∧ ∀k∈ks,k≠x)∨ ∃(j:Nat) (e:MapEntry),(Instr.findAsking kt (.agg (enc x).toArray) es i).run P w= .ok (some (i+j,e.val)) w∧es[j]? =some e∧ks[j]? =some x:=by
  intro x ks es;induction es generalizing ks with
  |nil=>intro i he w;cases ks with
   |nil=>exact .inl ⟨rfl,by simp⟩
   |cons a r=>simp at he
  |cons e es ih=>
   intro i he w;cases ks with
   |nil=>simp at he
   |cons a r=>
    simp only[List.map_cons,List.cons.injEq]at he;have hrun:(Op.equal kt (.agg (enc x).toArray) e.key).run P w= .ok (decide (x=a)) w:=by
     rw[he.1];have h:=iv 8 kt (enc x) (enc a) _ (heq x a) _ _ (hval _) (hval _) 9992 w;simp only[Op.equal,Op.maxDepth,h]
    unfold Instr.findAsking;simp only[Sem.run_bind,hrun,Result.andThen_ok];by_cases ex:x=a
    ·subst ex;refine .inr ⟨0,e,by simp,rfl,rfl⟩
    ·simp only[ex,decide_false,Bool.false_eq_true,if_false];rcases ih r (i+1) he.2 w with⟨h1,h2⟩|⟨j,e',h1,h2,h3⟩
     ·exact .inl ⟨h1,fun k hk=>by
       rcases List.mem_cons.1 hk with rfl|hk
       ·exact fun q=>ex q.symm
       ·exact h2 k hk⟩
     ·exact .inr ⟨j+1,e',by rw[h1,show i+1+j=i+(j+1)by omega],by simpa using h2,by simpa using h3⟩
 refine⟨fun x y e=>inj x y (by simpa using e),hchk,fun x ks es he w=>?_,fun x w=>?_⟩
 ·have hs: ∀v,Instr.sameNow kd (.agg (enc x).toArray) v=none:=hkd _;have hn:=uR hs es 0;by_cases e0:es= []
  ·subst e0;have:ks= []:=by cases ks<;>simp at he;rfl
   subst this;exact .inl ⟨run_findKey hu rfl,by simp⟩
  ·rw[if_neg e0]at hn;have hfk:(Instr.findKey kt (.agg (enc x).toArray) es).run P w=(Instr.findAsking kt (.agg (enc x).toArray) es 0).run P w:=by
    simp[Instr.findKey,run_underlying hu,Result.andThen,hn]
   rw[hfk];have:=hask x ks es 0 he w;simpa using this
 ·have:=Bn 9999 (enc x) (hfl x);simp only[Instr.keyThatStays,this,if_true];rfl
structure oa{α β:Type}(enc:α→Value)(ev:β→Value)(es:Array MapEntry)(clock:Nat)(m:List (α×β)):Prop where
 st:Stamped es clock
 eq:es.toList.map (fun e=>(e.key,e.val))=m.map (fun p=>(enc p.1,ev p.2))
section
variable {α β:Type} {enc:α→Value} {ev:β→Value} {es:Array MapEntry} {clock:Nat} {m:List (α×β)}
theorem oa.empty:oa enc ev #[] 0 ([]:List (α×β)):=⟨stamped_empty 0,rfl⟩
theorem oa.ks(h:oa enc ev es clock m):es.toList.map (·.key)=(m.map (·.1)).map enc:=by
 have:=congrArg (List.map Prod.fst) h.eq;simpa[List.map_map,Function.comp_def]using this
theorem oa.len(h:oa enc ev es clock m):es.size=m.length:=by
 have:=congrArg List.length h.eq;simpa using this
theorem oa.at{j:Nat}{e:MapEntry}{x:α}(h:oa enc ev es clock m)(h1:es.toList[j]? =some e): ∃p,m[j]? =some p∧e.key=enc p.1∧e.val=ev p.2:=by
 have h2:=congrArg (fun l=>l[j]?) h.eq;simp only[List.getElem?_map,h1,Option.map_some]at h2;cases hm:m[j]? with
 |none=>rw[hm]at h2;cases h2
 |some p=>rw[hm]at h2;simp at h2;exact⟨p,rfl,h2.1,h2.2⟩
variable [DecidableEq α]
theorem oa.nd{P:Program}{kt:TypeId}(L:fM P kt enc)(h:oa enc ev es clock m):(m.map (·.1)).Nodup:=by
 have h1:=h.st.2.2;rw[h.ks]at h1;exact List.Pairwise.of_map enc (fun a b hab e=>hab (by rw[e])) h1
theorem yL(m:List (α×β)){x:α}(h: ∀k∈m.map (·.1),k≠x):bO m x=none:=by
 unfold bO;rw[List.find?_eq_none.2 fun e he=>by simpa using h e.1 (List.mem_map_of_mem he)];rfl
theorem EW(m:List (α×β))(nd:(m.map (·.1)).Nodup){j:Nat}{p:α×β}(h:m[j]? =some p):bO m p.1=some p.2:=by
 induction m generalizing j with
 |nil=>simp at h
 |cons a r ih=>
  simp only[List.map_cons,List.nodup_cons]at nd;unfold bO;cases j with
  |zero=>simp at h;subst h;simp
  |succ j=>
   simp at h;have hin:p∈r:=List.mem_of_getElem? h;have hne:a.1≠p.1:=fun e=>nd.1 (by rw[e];exact List.mem_map_of_mem hin);rw[List.find?_cons_of_neg (by simpa using hne)];exact ih nd.2 h
theorem Bo(m:List (α×β)){x:α}(v:β)(h: ∀k∈m.map (·.1),k≠x):cJ m x v=m++ [(x,v)]:=by
 induction m with
 |nil=>rfl
 |cons a r ih=>
  have h1:a.1≠x:=h a.1 (by simp);simp only[cJ,h1,if_false,List.cons_append];rw[ih fun k hk=>h k (by simp at hk⊢;exact .inr hk)]
theorem Bp(m:List (α×β))(nd:(m.map (·.1)).Nodup){x:α}(v:β){j:Nat}(h:(m.map (·.1))[j]? =some x):cJ m x v=m.set j (x,v):=by
 induction m generalizing j with
 |nil=>simp at h
 |cons a r ih=>
  simp only[List.map_cons,List.nodup_cons]at nd;cases j with
  |zero=>simp at h;simp[cJ,h]
  |succ j=>
   simp only[List.map_cons,List.getElem?_cons_succ]at h;have hne:a.1≠x:=fun e=>nd.1 (by rw[e];exact List.mem_of_getElem? h);simp only[cJ,hne,if_false,List.set_cons_succ];rw[ih nd.2 h]
theorem qe(m:List (α×β)){x:α}(h: ∀k∈m.map (·.1),k≠x):gP m x=m:=by
 induction m with
 |nil=>rfl
 |cons a r ih=>
  have h1:a.1≠x:=h a.1 (by simp);simp only[gP,h1,if_false];rw[ih fun k hk=>h k (by simp at hk⊢;exact .inr hk)]
theorem Bq(m:List (α×β))(nd:(m.map (·.1)).Nodup){x:α}{j:Nat}(h:(m.map (·.1))[j]? =some x):gP m x=m.eraseIdx j:=by
 induction m generalizing j with
 |nil=>simp at h
 |cons a r ih=>
  simp only[List.map_cons,List.nodup_cons]at nd;cases j with
  |zero=>simp at h;simp[gP,h]
  |succ j=>
   simp only[List.map_cons,List.getElem?_cons_succ]at h;have hne:a.1≠x:=fun e=>nd.1 (by rw[e];exact List.mem_of_getElem? h);simp only[gP,hne,if_false,List.eraseIdx_cons_succ];rw[ih nd.2 h]
end
section
variable [bB] {P:Program} {n:Nat} {env:aI} {S:World→Prop} {o:Oper} {w:World} {H:bZ} {K:aI→World→Prop} {α β:Type} [DecidableEq α] {enc:α→Value} {ev:β→Value}
theorem Br{t kt et g i clock:Nat}{m kx x:Operand}{es:Array MapEntry}{ms:List (α×β)}{k:α}{u:β}(ho:o.op= .mapUpdate t m kx x)(hd:o.dst=none)
  (hm:env.ev m=some (.map (some g))) (hkx:env.ev kx=some (enc k)) (hx:env.ev x=some (ev u)) (ht:P.underlying t=some (.map kt et)) (L:fM P kt enc)
  (h:Hp w H) (hi:H[i]? =some (some g,.map es clock)) (hM:oa enc ev es clock ms)
  (hK: ∀es' clock' w',oa enc ev es' clock' (cJ ms k u)→Hp w' (H.set i (some g,.map es' clock'))→Fr [g] w w'→K env w'):bH P n env w o K:=by
 have hb:=h.at hi;rcases L.fnd k (ms.map (·.1)) es.toList hM.ks w with⟨h1,h2⟩|⟨j,e,h1,h2,h3⟩
 ·refine wm hd (w':={w with heap:=w.heap.setIfInBounds g (.map (es.push {key:=enc k,val:=ev u,born:=clock}) (clock+1))}) (fun a r=>?_)
   (hK _ _ _ ⟨stamped_push hM.st fun y hy e=>?_,?_⟩ (h.setAt hi (Fr.setObj hb) (MapKept.heap_set hb).1) (Fr.setObj hb))
  ·unfold execOp;simp[ho,r.eval hm,r.eval hkx,r.eval hx,Instr.mapUpdate,run_underlying ht,MapKept.run_getObj_map hb,L.chk,h1,MapKept.run_setObj_map _ hb]
  ·have:y.key∈(ms.map (·.1)).map enc:=by rw[←hM.ks];exact List.mem_map_of_mem hy
   obtain⟨z,hz,e2⟩:=List.mem_map.1 this;exact h2 z hz (L.inj _ _ (e2.trans e))
  ·rw[Bo ms u h2];simp[hM.eq]
 ·have hj:es[j]? =some e:=by simpa using h2
  obtain⟨p,hp,hpk,hpv⟩:=hM.at (x:=k) h2;have hpx:p.1=k:=by rw[List.getElem?_map,hp]at h3;simpa using h3
  have hek:e.key=enc k:=by rw[hpk,hpx]
  have hkey: ∀e',es[j]? =some e'→({e' with key:=enc k,val:=ev u}:MapEntry).key=e'.key:=fun e' he'=>by rw[hj]at he';cases he';exact hek.symm
  refine wm hd (w':={w with heap:=w.heap.setIfInBounds g (.map (es.modify j fun e=>{e with key:=enc k,val:=ev u}) clock)}) (fun a r=>?_)
   (hK (es.modify j fun e=>{e with key:=enc k,val:=ev u}) clock _ ⟨stamped_modify hM.st _ _ (fun _ _=>rfl) (fun e' _ he'=>hkey e' he'),?_⟩ (h.setAt hi (Fr.setObj hb) (MapKept.heap_set hb).1) (Fr.setObj hb))
  ·unfold execOp;simp[ho,r.eval hm,r.eval hkx,r.eval hx,Instr.mapUpdate,run_underlying ht,MapKept.run_getObj_map hb,L.chk,h1,hj,hek,L.stay,MapKept.run_setObj_map _ hb]
  ·rw[Bp ms (hM.nd L) u h3];apply List.ext_getElem?;intro q;have hq:=congrArg (fun l=>l[q]?) hM.eq;simp only[List.getElem?_map,Array.getElem?_toList]at hq;rw[List.getElem?_map,List.getElem?_map,List.getElem?_set,Array.getElem?_toList,Array.getElem?_modify];by_cases e:j=q
   ·subst e;have hlt:j<ms.length:=(List.getElem?_eq_some_iff.1 hp).1;simp[hj,hlt]
   ·simp only[e,if_false];exact hq
omit [bB]in
theorem GA{kt clock:Nat}{es:Array MapEntry}{ms:List (α×β)}(L:fM P kt enc)(hM:oa enc ev es clock ms)(k:α)(w:World): ∃r,(Instr.findKey kt (enc k) es.toList).run P w= .ok r w∧r.map (·.2)=(bO ms k).map ev:=by
 rcases L.fnd k (ms.map (·.1)) es.toList hM.ks w with⟨h1,h2⟩|⟨j,e,h1,h2,h3⟩
 ·exact⟨_,h1,by rw[yL ms h2];rfl⟩
 ·obtain⟨p,hp,hpk,hpv⟩:=hM.at (x:=k) h2;have hpx:p.1=k:=by rw[List.getElem?_map,hp]at h3;simpa using h3
  exact⟨_,h1,by rw[←hpx,EW ms (hM.nd L) hp,hpv];rfl⟩
theorem yM{t kt et g i clock:Nat}{m kx:Operand}{es:Array MapEntry}{ms:List (α×β)}{k:α}{z:β}(ho:o.op= .lookup t m kx false)
  (hm:env.ev m=some (.map (some g))) (hkx:env.ev kx=some (enc k)) (ht:P.underlying t=some (.map kt et)) (L:fM P kt enc) (hz:iY P et=some (ev z))
  (h: ∀w,S w→Hp w H) (hi:H[i]? =some (some g,.map es clock)) (hM:oa enc ev es clock ms):ci P n env S o (ev ((bO ms k).getD z)):=fun a r w hS=>by
 have hb:=(h w hS).at hi;obtain⟨q,h1,h2⟩:=GA L hM k w;unfold execOp;cases q with
 |none=>
  cases hg:bO ms k with
  |some _=>rw[hg]at h2;cases h2
  |none=>simp[ho,r.eval hm,r.eval hkx,Instr.lookup,run_underlying ht,MapKept.run_getObj_map hb,L.chk,h1,uT hz]
 |some q=>
  cases hg:bO ms k with
  |none=>rw[hg]at h2;cases h2
  |some u=>rw[hg]at h2;simp at h2;simp[ho,r.eval hm,r.eval hkx,Instr.lookup,run_underlying ht,MapKept.run_getObj_map hb,L.chk,h1,h2]
theorem uS{t kt et g i clock:Nat}{m kx:Operand}{es:Array MapEntry}{ms:List (α×β)}{k:α}{z:β}(ho:o.op= .lookup t m kx true)
  (hm:env.ev m=some (.map (some g))) (hkx:env.ev kx=some (enc k)) (ht:P.underlying t=some (.map kt et)) (L:fM P kt enc) (hz:iY P et=some (ev z))
  (h: ∀w,S w→Hp w H) (hi:H[i]? =some (some g,.map es clock)) (hM:oa enc ev es clock ms):ci P n env S o (.tuple #[ev ((bO ms k).getD z),.bool (bO ms k).isSome]):=fun a r w hS=>by
 have hb:=(h w hS).at hi;obtain⟨q,h1,h2⟩:=GA L hM k w;unfold execOp;cases q with
 |none=>
  cases hg:bO ms k with
  |some _=>rw[hg]at h2;cases h2
  |none=>simp[ho,r.eval hm,r.eval hkx,Instr.lookup,run_underlying ht,MapKept.run_getObj_map hb,L.chk,h1,uT hz]
 |some q=>
  cases hg:bO ms k with
  |none=>rw[hg]at h2;cases h2
  |some u=>rw[hg]at h2;simp at h2;simp[ho,r.eval hm,r.eval hkx,Instr.lookup,run_underlying ht,MapKept.run_getObj_map hb,L.chk,h1,h2]
end
end Go.Proofs.YtmpeiadlohbikaaGreatDoor
end
