/- Sorts of permutations. -/
import Derived.Test.YtmpeiadlohbikaaGreatDoorYs17
import Derived.Shelf.Small.Bits
import Derived.Shelf.Utf8.RuneCount
import Derived.Shelf.Strconv.Itoa0
import Derived.Shelf.Strings.Search1
import Derived.Shelf.Strings.Search2
import Derived.Shelf.Strings.Search3
import Derived.Shelf.Strings.Count
import Derived.Shelf.LaysM
import Derived.Shelf.Strings.Shaped
import Derived.Shelf.Sort.Plain
import Derived.Shelf.GgClosure.StringsIndexFunc
import Derived.Ground.GgwProg
import Derived.Shelf.GgClosure.StringsIndexFuncTop
import Derived.Shelf.Strings.Split
import Derived.Shelf.Strings.SplitShaped
import Derived.Shelf.Unicode.Decode
import Derived.Shelf.Strings.RuneCount
import Derived.Shelf.Strings.Explode
import Derived.Shelf.Unicode.DecodeSlow
import Derived.Shelf.Unicode.DecodeAny
import Derived.Shelf.Strings.FuncGrows
import Derived.Shelf.Slices.In.SortNone
import Derived.Shelf.SlSortCmp.NoneTotal
import Derived.Shelf.SlGeneric
import Derived.Ground.SlsfProg
import Derived.Test.YtmpeiadlohbikaaGreatDoorProg
import Derived.Test.YtmpeiadlohbikaaGreatDoorYs3
import Derived.Laws.RangeString
import Derived.Lib.OthersKept
import Derived.Lib.TrimU
import Derived.Maps.RangeRun
import Derived.Test.YtmpeiadlohbikaaGreatDoorYs15
section
set_option linter.unusedVariables false
set_option linter.unusedSimpArgs false
namespace Go.Proofs.YtmpeiadlohbikaaGreatDoor.V
open Go.RowKit Go.Shelf Go.Lib Go.Sort
section
variable {U:cw} {P:Program} {ρs:Ren} {tE:Nat} {s:bq} {ei:TI U}
theorem nS{α β:Type}(p:α→Prop)(φ:α→List β): ∀(l:List α) (h: ∀x∈l,p x),(l.attachWith p h).flatMap (fun a=>φ a.1)=l.flatMap φ:=fun l h=>by
 conv=>rhs;rw[←List.attachWith_map_subtype_val (p:=p) (l:=l) h]
 rw[List.flatMap_map]
theorem nT{α β:Type}(p:α→Prop)(φ:α→β)(l:List α)(h: ∀x∈l,p x):(l.attachWith p h).map (fun a=>φ a.1)=l.map φ:=by
 conv=>rhs;rw[←List.attachWith_map_subtype_val (p:=p) (l:=l) h]
 rw[List.map_map];rfl
theorem xQ{α β:Type}(φ:α→β)(g:β→β→Int)(l:List α):(bl (fun a b=>g (φ a) (φ b)) l).map φ=bl g (l.map φ):=by
 unfold bl;exact List.map_mergeSort (r:=fun x y=>!ltOf (fun a b=>g (φ a) (φ b)) y x) (s:=fun x y=>!(ltOf g) y x) (f:=φ) (fun a _ b _=>rfl)
def fL{α:Type}(l:List α)(g:α→α→Int):Prop:=SWO (ltOf g)∧ ∀x∈l,∀y∈l,ltOf g x y=false→ltOf g y x=false→x=y
def zY(U:cw)(s:bq)(tE:Nat):bG U:=⟨[.n,.f2 s s],fun xs es K=> ∃(l:List (TT U.ty s)) (g:TT U.ty s→TT U.ty s→Int),xs= [⟨false,[(1,.own 0 0)]⟩,⟨false,[(1,.f2 s s g)]⟩]∧es= [.row 0 s l tE]∧fL l g∧l.length<4611686018427387904∧K (.tup []) [.row 0 s (bl g l) tE]⟩
theorem zZ [ay]{X:List Nat}{w w1:World}{ρ:Nat→Rz}{H:Hs U}{g:TT U.ty s→TT U.ty s→Int}{f:FuncId}{ca:List Value}(hpr:ay.pr=P)(hag:e9 s=true)(hv:yv U (ao ρ H++X) (· =w) (.func (.func f) #[] ca.toArray) s s g)(x y:Em U (ao ρ H++X) w s){O:List Nat}(hf:Fr O w w1)(hO: ∀y∈O,y∈ao ρ H)(xd: ∀g∈ao ρ H,g∉ay.xf)(hY: ∀z∈gB,z∈ao ρ H++X):
  Fn P f ([.agg x.c.toArray,.agg y.c.toArray]++ca) w1 fun v w2=>v= .int .i64 (g x.x y.x)∧Fr [] w1 w2:=by
 have mv:Mv (ao ρ H++X) (· =w) (ao ρ H++X) (· =w1):=fun w2 h2=>⟨w,O,rfl,by subst h2;exact hf,fun y hy=>⟨List.mem_append_left _ (hO y hy),xd y (hO y hy)⟩,fun y hy=> .inl hy⟩;have h1:=yv.call (v:= .agg x.c.toArray) (v':= .agg y.c.toArray) (hv.mv mv) hY (t:=x.x) (t':=y.x) (by simpa[Value.cells]using aK.mv mv x.den) (by unfold ef;rw[hag];simp[Value.cells]) (by simpa[Value.cells]using aK.mv mv y.den) (by unfold ef;rw[hag];simp[Value.cells]);rw[hpr]at h1;obtain⟨f',fi,ca',e,h2⟩:=h1;injection e with e1 e2 e3;injection e1 with e1;subst e1;have e2:fi= []:=by
  have:=congrArg Array.toList e2;simpa using this.symm
 have e3:ca=ca':=by
  have:=congrArg Array.toList e3;simpa using this
 subst e2;subst e3;exact Fn.mono h2 fun v w' ⟨a,_,b⟩=>⟨a,b⟩
theorem z7(L:SlLaysF0.n6 P ρs)(hen:bu P (ρs.f 6)=true)(hag:e9 s=true)(ag:bJ P (ρs.t 24)=some (aQ U s))(sz:(P.info? (ρs.t 24)).map (·.size)=some (aQ U s))(hti:bd U P tE ei)(hz: ∃z,du 20 s ei.zero fun x=>x=z)(hm0:0<aQ U s)
  (hfl: ∀(Y:List Nat) (w:World) (x:TT U.ty s) (c c':List Value),aK U Y (· =w) s x c→aK U Y (· =w) s x c'→c=c'):dz P U (ρs.f 6) (zY U s tE):=fun [F:ay] hpr X w ρ es0 xs vs K M hv hrun=>by
 obtain⟨l,g,rfl,rfl,⟨hO,hT⟩,hl62,hK⟩:=hrun;obtain⟨v,us,rfl,h1,v2,us2,rfl,h2,h3⟩:=hv;rw[show us2= []from h3];have hl:aI (aV 0 [aU.row 0 s l tE]) 0=some (.row 0 s l tE):=rfl;obtain⟨em,sp,hi,e1,e2,rfl,how0,hw⟩:=mj M hl h1;obtain⟨I,hu⟩:=jv hti hz (ao ρ (aV 0 [aU.row 0 s l tE])++X) w;obtain⟨u',e,hv2⟩:=(show Vw U X w ρ 1 (aV 0 [aU.row 0 s l tE]) (.f2 s s g) [v2]from(cg.one1 h2).1);injection e with e;subst e;obtain⟨f,ca,rfl⟩:=hv2.1;have dj: ∀g,ap (ρ 0).A=some g→g∉X:=fun g hg=>M.dj g (gU hl hg);have hkey: ∀cs,∀y∈aT [(ap (ρ 0).A,Cl cs tE)],y∈ao ρ (aV 0 [aU.row 0 s l tE]):=fun cs y hy=>by
  rw[dZ]at hy;exact gU hl (by simpa using hy)
 have hen2:bu P f=true:=(zZ hpr hag hv2 (default:Em U (ao ρ (aV 0 [aU.row 0 s l tE])++X) w s) default (Fr.refl [] w) (fun y hy=>by cases hy) M.xd M.gY).1;have key: ∀(p:Em U (ao ρ (aV 0 [aU.row 0 s l tE])++X) w s→Prop) (hp: ∀x∈em,p x) (e0:Em U (ao ρ (aV 0 [aU.row 0 s l tE])++X) w s) (h0:p e0),(∀x y,p x→p y→ltOf g x.x y.x=false→ltOf g y.x x.x=false→x.x=y.x)→
   Fn P (ρs.f 6) [.slice (ρ 0).A em.length (ρ 0).c,.func (.func f) #[] ca.toArray] w fun v w'=>v= .tuple #[]∧ ∃em':List (Em U (ao ρ (aV 0 [aU.row 0 s l tE])++X) w s),em'.map (·.x)=bl g l∧Ow (ρ 0).A em.length (ρ 0).c (aQ U s) (em'.flatMap (·.c)) sp∧(∀g,ap (ρ 0).A=some g→w'.heap[g]? =some (Cl (em'.flatMap (·.c)++sp) tE))∧Fr (ap (ρ 0).A).toList w w':=by
  intro p hp e0 h0 hT'
  haveI:Inhabited {x:Em U (ao ρ (aV 0 [aU.row 0 s l tE])++X) w s//p x}:=⟨⟨e0,h0⟩⟩
  have hfm:=nS p (fun e:Em U (ao ρ (aV 0 [aU.row 0 s l tE])++X) w s=>e.c) em hp;have hlen:(em.attachWith p hp).length=em.length:=List.length_attachWith;have hs:=HY (enc:=fun a:{x:Em U (ao ρ (aV 0 [aU.row 0 s l tE])++X) w s//p x}=>a.1.c) (k:=aQ U s) (e:=tE) L (DS ag) (dr sz) (fun x=>x.1.hl) hm0 (fun x=>x.1.h1) (cf:=fun a b=>g a.1.x b.1.x)
   ⟨fun x=>hO.1 x.1.x,fun x y z=>hO.2 x.1.x y.1.x z.1.x,fun x y z=>hO.3 x.1.x y.1.x z.1.x⟩
   (fun x y h1 h2=>by
    have e:=hT' x.1 y.1 x.2 y.2 h1 h2;obtain⟨⟨x,c,d⟩,hx⟩:=x;obtain⟨⟨y,c',d'⟩,hy⟩:=y;simp only at e;subst e;have:=hfl _ _ _ _ _ d d';subst this;rfl) (g:=f) (cb:=ca) (vJ hen2) hen X w (em.attachWith p hp) (by rw[hlen];omega) (ρ 0).A (ρ 0).c sp (by rw[hfm];exact oR (M.lo w rfl) hw dj) (by rw[hfm,hlen];exact how0)
   (fun w1 x y hf1=>zZ hpr hag hv2 x.1 y.1 hf1 (hkey _) M.xd M.gY)
  rw[hlen]at hs;refine hs.mono ?_;rintro v w' ⟨rfl,a1,a2,a3,a4⟩;refine⟨rfl,(bl (fun a b:{x:Em U (ao ρ (aV 0 [aU.row 0 s l tE])++X) w s//p x}=>g a.1.x b.1.x) (em.attachWith p hp)).map (·.1),?_,?_,fun g' hg'=>?_,?_⟩
  ·rw[List.map_map];have:=xQ (fun a:{x:Em U (ao ρ (aV 0 [aU.row 0 s l tE])++X) w s//p x}=>a.1.x) g (em.attachWith p hp);rw[show((fun x:Em U (ao ρ (aV 0 [aU.row 0 s l tE])++X) w s=>x.x)∘fun x:{x:Em U (ao ρ (aV 0 [aU.row 0 s l tE])++X) w s//p x}=>x.1)=fun a=>a.1.x from rfl,this];have h9:=nT p (fun e:Em U (ao ρ (aV 0 [aU.row 0 s l tE])++X) w s=>e.x) em hp;rw[h9,e1]
  ·rw[List.flatMap_map];exact a1
  ·rw[List.flatMap_map];exact a3.hp.at (i:=0) (by rw[hg'];rfl)
  ·rw[dZ]at a4;exact a4
 have main:Fn P (ρs.f 6) [.slice (ρ 0).A em.length (ρ 0).c,.func (.func f) #[] ca.toArray] w fun v w'=>v= .tuple #[]∧ ∃em':List (Em U (ao ρ (aV 0 [aU.row 0 s l tE])++X) w s),em'.map (·.x)=bl g l∧Ow (ρ 0).A em.length (ρ 0).c (aQ U s) (em'.flatMap (·.c)) sp∧(∀g,ap (ρ 0).A=some g→w'.heap[g]? =some (Cl (em'.flatMap (·.c)++sp) tE))∧Fr (ap (ρ 0).A).toList w w':=by
  cases hem:em with
  |nil=>
   rw[←hem];exact key (fun x=>x=default) (fun x hx=>by rw[hem]at hx;cases hx) default rfl (fun x y hx hy _ _=>by rw[hx,hy])
  |cons e0 r=>
   rw[←hem];exact key (fun x=>x∈em) (fun x hx=>hx) e0 (by rw[hem];simp) (fun x y hx hy=>hT _ (by rw[←e1];exact List.mem_map_of_mem hx) _ (by rw[←e1];exact List.mem_map_of_mem hy))
 refine main.mono ?_;rintro v w' ⟨rfl,em',b1,b2,b3,b4⟩;have hlen:em.length=(bl g l).length:=by rw[da,e2]
 rw[hlen]at b2;obtain⟨ρ',a2,a3⟩:=Jt (el:=tE) M hl hm0 b4 (da ..) (by have:=ln em';rw[b1]at this;exact this) b2 b3;exact⟨_,_,ρ',hK,⟨[],rfl,rfl⟩,a2,a3⟩
end
end Go.Proofs.YtmpeiadlohbikaaGreatDoor.V
end

section
namespace Go.Proofs
open Go.Shelf
def Tryz.laysM219_ren:Go.Shelf.Ren:=⟨fun|219=>229|217=>239|225=>240|224=>241|267=>242|266=>245|314=>246|n=>n,fun|9=>9|3=>3|4=>4|5=>5|46=>216|146=>325|51=>28|n=>n,fun|1=>0|n=>n⟩
theorem Tryz.laysM219:Go.Proofs.LaysM.n219 Tryz.prog Tryz.laysM219_ren:={
 mixed:=by kernel_rfl
 f217:=Tryz.func239.trans (congrArg some (by kernel_rfl))
 f219:=Tryz.func229.trans (congrArg some (by kernel_rfl))
 f224:=Tryz.func241.trans (congrArg some (by kernel_rfl))
 f225:=Tryz.func240.trans (congrArg some (by kernel_rfl))
 f266:=Tryz.func245.trans (congrArg some (by kernel_rfl))
 f267:=Tryz.func242.trans (congrArg some (by kernel_rfl))
 f314:=Tryz.func246.trans (congrArg some (by kernel_rfl))
 t3:=Tryz.underlying3
 a3:=Tryz.isAgg3
 z3:=Tryz.sizeOf3
 v3:=Tryz.zeroValue3
 t4:=Tryz.underlying4
 a4:=Tryz.isAgg4
 z4:=Tryz.sizeOf4
 v4:=Tryz.zeroValue4
 t5:=Tryz.underlying5
 a5:=Tryz.isAgg5
 z5:=Tryz.sizeOf5
 v5:=Tryz.zeroValue5
 t9:=Tryz.underlying9
 a9:=Tryz.isAgg9
 z9:=Tryz.sizeOf9
 v9:=Tryz.zeroValue9
 t46:=Tryz.underlying216
 a46:=Tryz.isAgg216
 z46:=Tryz.sizeOf216
 v46:=Tryz.zeroValue216
 t51:=Tryz.underlying28
 a51:=Tryz.isAgg28
 z51:=Tryz.sizeOf28
 v51:=Tryz.zeroValue28
 t146:=Tryz.underlying325
 a146:=Tryz.isAgg325
 z146:=Tryz.sizeOf325
 v146:=Tryz.zeroValue325
 g1:=by kernel_rfl
 i3:=by kernel_rfl
 i4:=by kernel_rfl
 i5:=by kernel_rfl
 i9:=by kernel_rfl
 i46:=by kernel_rfl
 i51:=by kernel_rfl
 i146:=by kernel_rfl
 m1:=by kernel_rfl
 s1_3:=fun w h=>Go.Proofs.cell_of_shapedOpen_int (zero:= #[.int .i64 0]) (t:=3) h (of_decide_eq_true (by kernel_rfl)) (by kernel_rfl) rfl (by kernel_rfl) (by kernel_rfl) Tryz.underlying3}
def Tryz.lays190_ren:Go.Shelf.Ren:=⟨fun|190=>118|125=>116|258=>174|128=>172|129=>173|302=>202|303=>203|304=>204|305=>205|306=>206|307=>207|308=>208|309=>209|310=>210|333=>231|329=>198|330=>199|334=>232|335=>233|336=>117|344=>243|n=>n,fun|31=>25|9=>9|3=>3|46=>216|0=>0|51=>28|53=>24|4=>4|183=>262|182=>261|131=>191|5=>5|218=>283|222=>287|228=>312|229=>101|n=>n,fun|n=>n⟩
theorem Tryz.lays190:Go.Proofs.Lays.n190 Tryz.prog Tryz.lays190_ren:={
 mixed:=by kernel_rfl
 f125:=Tryz.func116.trans (congrArg some (by kernel_rfl))
 f128:=Tryz.func172.trans (congrArg some (by kernel_rfl))
 f129:=Tryz.func173.trans (congrArg some (by kernel_rfl))
 f190:=Tryz.func118.trans (congrArg some (by kernel_rfl))
 f258:=Tryz.func174.trans (congrArg some (by kernel_rfl))
 f302:=Tryz.func202.trans (congrArg some (by kernel_rfl))
 f303:=Tryz.func203.trans (congrArg some (by kernel_rfl))
 f304:=Tryz.func204.trans (congrArg some (by kernel_rfl))
 f305:=Tryz.func205.trans (congrArg some (by kernel_rfl))
 f306:=Tryz.func206.trans (congrArg some (by kernel_rfl))
 f307:=Tryz.func207.trans (congrArg some (by kernel_rfl))
 f308:=Tryz.func208.trans (congrArg some (by kernel_rfl))
 f309:=Tryz.func209.trans (congrArg some (by kernel_rfl))
 f310:=Tryz.func210.trans (congrArg some (by kernel_rfl))
 f329:=Tryz.func198.trans (congrArg some (by kernel_rfl))
 f330:=Tryz.func199.trans (congrArg some (by kernel_rfl))
 f333:=Tryz.func231.trans (congrArg some (by kernel_rfl))
 f334:=Tryz.func232.trans (congrArg some (by kernel_rfl))
 f335:=Tryz.func233.trans (congrArg some (by kernel_rfl))
 f336:=Tryz.func117.trans (congrArg some (by kernel_rfl))
 f344:=Tryz.func243.trans (congrArg some (by kernel_rfl))
 t0:=Tryz.underlying0
 a0:=Tryz.isAgg0
 z0:=Tryz.sizeOf0
 v0:=Tryz.zeroValue0
 t3:=Tryz.underlying3
 a3:=Tryz.isAgg3
 z3:=Tryz.sizeOf3
 v3:=Tryz.zeroValue3
 t4:=Tryz.underlying4
 a4:=Tryz.isAgg4
 z4:=Tryz.sizeOf4
 v4:=Tryz.zeroValue4
 t5:=Tryz.underlying5
 a5:=Tryz.isAgg5
 z5:=Tryz.sizeOf5
 v5:=Tryz.zeroValue5
 t9:=Tryz.underlying9
 a9:=Tryz.isAgg9
 z9:=Tryz.sizeOf9
 v9:=Tryz.zeroValue9
 t31:=Tryz.underlying25
 a31:=Tryz.isAgg25
 z31:=Tryz.sizeOf25
 v31:=Tryz.zeroValue25
 t46:=Tryz.underlying216
 a46:=Tryz.isAgg216
 z46:=Tryz.sizeOf216
 v46:=Tryz.zeroValue216
 t51:=Tryz.underlying28
 a51:=Tryz.isAgg28
 z51:=Tryz.sizeOf28
 v51:=Tryz.zeroValue28
 t53:=Tryz.underlying24
 a53:=Tryz.isAgg24
 z53:=Tryz.sizeOf24
 v53:=Tryz.zeroValue24
 t131:=Tryz.underlying191
 a131:=Tryz.isAgg191
 z131:=Tryz.sizeOf191
 v131:=Tryz.zeroValue191
 t182:=Tryz.underlying261
 a182:=Tryz.isAgg261
 z182:=Tryz.sizeOf261
 v182:=Tryz.zeroValue261
 t183:=Tryz.underlying262
 a183:=Tryz.isAgg262
 z183:=Tryz.sizeOf262
 v183:=Tryz.zeroValue262
 t218:=Tryz.underlying283
 a218:=Tryz.isAgg283
 z218:=Tryz.sizeOf283
 v218:=Tryz.zeroValue283
 t222:=Tryz.underlying287
 a222:=Tryz.isAgg287
 z222:=Tryz.sizeOf287
 v222:=Tryz.zeroValue287
 t228:=Tryz.underlying312
 a228:=Tryz.isAgg312
 z228:=Tryz.sizeOf312
 v228:=Tryz.zeroValue312
 t229:=Tryz.underlying101
 a229:=Tryz.isAgg101
 z229:=Tryz.sizeOf101
 v229:=Tryz.zeroValue101}
open Go.Sort Go.RowKit in
theorem Tryz.slices_Sort_string(blk off cap:Nat)(ss:List (List UInt8))(w:World)(hH:Holds encStr w blk off ss.toArray)(hblk:blk<w.heap.size)(hsz:ss.length<4611686018427387904):
  Calls Tryz.prog 118 #[.slice (some ⟨blk,off,none⟩) ss.length cap] w fun e w'=>
   e= .returned (.tuple #[])∧ ∃n os,w'=grow (putRow encStr (Sort.ahead w n) blk off (ss.mergeSort fun x y=>decide (x≤y)).toArray) os:=Any.slices_Sort_string Tryz.lays190 blk off cap ss w hH hblk hsz
def Tryz.lays146_ren:Go.Shelf.Ren:=⟨fun|146=>104|221=>160|268=>194|138=>195|143=>196|195=>226|197=>227|218=>228|219=>229|260=>238|217=>239|225=>240|224=>241|267=>242|266=>245|314=>246|n=>n,fun|9=>9|31=>25|3=>3|4=>4|0=>0|105=>309|21=>21|5=>5|46=>216|119=>321|139=>324|138=>323|146=>325|51=>28|n=>n,fun|1=>0|3=>1|4=>2|n=>n⟩
theorem Tryz.lays146:Go.Proofs.Lays.n146 Tryz.prog Tryz.lays146_ren:={
 mixed:=by kernel_rfl
 f138:=Tryz.func195.trans (congrArg some (by kernel_rfl))
 f143:=Tryz.func196.trans (congrArg some (by kernel_rfl))
 f146:=Tryz.func104.trans (congrArg some (by kernel_rfl))
 f195:=Tryz.func226.trans (congrArg some (by kernel_rfl))
 f197:=Tryz.func227.trans (congrArg some (by kernel_rfl))
 f217:=Tryz.func239.trans (congrArg some (by kernel_rfl))
 f218:=Tryz.func228.trans (congrArg some (by kernel_rfl))
 f219:=Tryz.func229.trans (congrArg some (by kernel_rfl))
 f221:=Tryz.func160.trans (congrArg some (by kernel_rfl))
 f224:=Tryz.func241.trans (congrArg some (by kernel_rfl))
 f225:=Tryz.func240.trans (congrArg some (by kernel_rfl))
 f260:=Tryz.func238.trans (congrArg some (by kernel_rfl))
 f266:=Tryz.func245.trans (congrArg some (by kernel_rfl))
 f267:=Tryz.func242.trans (congrArg some (by kernel_rfl))
 f268:=Tryz.func194.trans (congrArg some (by kernel_rfl))
 f314:=Tryz.func246.trans (congrArg some (by kernel_rfl))
 t0:=Tryz.underlying0
 a0:=Tryz.isAgg0
 z0:=Tryz.sizeOf0
 v0:=Tryz.zeroValue0
 t3:=Tryz.underlying3
 a3:=Tryz.isAgg3
 z3:=Tryz.sizeOf3
 v3:=Tryz.zeroValue3
 t4:=Tryz.underlying4
 a4:=Tryz.isAgg4
 z4:=Tryz.sizeOf4
 v4:=Tryz.zeroValue4
 t5:=Tryz.underlying5
 a5:=Tryz.isAgg5
 z5:=Tryz.sizeOf5
 v5:=Tryz.zeroValue5
 t9:=Tryz.underlying9
 a9:=Tryz.isAgg9
 z9:=Tryz.sizeOf9
 v9:=Tryz.zeroValue9
 t21:=Tryz.underlying21
 a21:=Tryz.isAgg21
 z21:=Tryz.sizeOf21
 v21:=Tryz.zeroValue21
 t31:=Tryz.underlying25
 a31:=Tryz.isAgg25
 z31:=Tryz.sizeOf25
 v31:=Tryz.zeroValue25
 t46:=Tryz.underlying216
 a46:=Tryz.isAgg216
 z46:=Tryz.sizeOf216
 v46:=Tryz.zeroValue216
 t51:=Tryz.underlying28
 a51:=Tryz.isAgg28
 z51:=Tryz.sizeOf28
 v51:=Tryz.zeroValue28
 t105:=Tryz.underlying309
 a105:=Tryz.isAgg309
 z105:=Tryz.sizeOf309
 v105:=Tryz.zeroValue309
 t119:=Tryz.underlying321
 a119:=Tryz.isAgg321
 z119:=Tryz.sizeOf321
 t138:=Tryz.underlying323
 a138:=Tryz.isAgg323
 z138:=Tryz.sizeOf323
 v138:=Tryz.zeroValue323
 t139:=Tryz.underlying324
 a139:=Tryz.isAgg324
 z139:=Tryz.sizeOf324
 v139:=Tryz.zeroValue324
 t146:=Tryz.underlying325
 a146:=Tryz.isAgg325
 z146:=Tryz.sizeOf325
 v146:=Tryz.zeroValue325
 g1:=by kernel_rfl
 g3:=by kernel_rfl
 g4:=by kernel_rfl}
open Go.RowKit Go.Lib in
theorem Tryz.strings_Split(s sep:ByteArray)(m:Int)(w:World)(hs:s.size<4294967281)(hm:w.cell? ⟨0,0,none⟩=some (.int .i64 m))(h1:1≤sep.size):
  Calls Tryz.prog 104 #[.string s,.string sep] w fun e w'=>
   e= .returned (.slice (some ⟨w.heap.size,0,none⟩) (Lib.countB s sep+1) (Lib.countB s sep+1))∧w'=w.alloc (.cells ((Lib.splitB sep 0 (Lib.countB s sep) s).map Value.string).toArray 9):=Any.strings_Split Tryz.lays146 (by kernel_rfl) s sep m w hs hm h1
open Go.RowKit Go.Sort in
theorem Tryz.slices_Sort_string_none(p:Option Addr)(cap:Nat)(w:World):
  Calls Tryz.prog 118 #[.slice p 0 cap] w fun e w'=>e= .returned (.tuple #[])∧w'=w:=Any.slices_Sort_string_none Tryz.lays190 p cap w
def Tryz.laysSortTag_ren:Go.Shelf.Ren:=⟨fun|6=>91|15=>116|14=>154|28=>172|29=>173|20=>185|21=>186|22=>187|23=>188|24=>189|25=>190|26=>191|27=>192|46=>222|47=>198|48=>199|49=>223|50=>224|57=>237|n=>n,fun|22=>36|24=>61|25=>181|3=>3|39=>216|0=>0|53=>28|55=>24|4=>4|46=>262|45=>261|50=>191|5=>5|9=>9|66=>283|70=>287|76=>312|77=>101|n=>n,fun|n=>n⟩
theorem Tryz.laysSortTag:Go.Proofs.SlLaysF0.n6 Tryz.prog Tryz.laysSortTag_ren:={
 mixed:=by kernel_rfl
 f6:=⟨Tryz.f91.name,by decide,Tryz.func91.trans (congrArg some (by kernel_rfl))⟩
 f14:=⟨Tryz.f154.name,by decide,Tryz.func154.trans (congrArg some (by kernel_rfl))⟩
 f15:=Tryz.func116.trans (congrArg some (by kernel_rfl))
 f20:=⟨Tryz.f185.name,by decide,Tryz.func185.trans (congrArg some (by kernel_rfl))⟩
 f21:=⟨Tryz.f186.name,by decide,Tryz.func186.trans (congrArg some (by kernel_rfl))⟩
 f22:=⟨Tryz.f187.name,by decide,Tryz.func187.trans (congrArg some (by kernel_rfl))⟩
 f23:=⟨Tryz.f188.name,by decide,Tryz.func188.trans (congrArg some (by kernel_rfl))⟩
 f24:=⟨Tryz.f189.name,by decide,Tryz.func189.trans (congrArg some (by kernel_rfl))⟩
 f25:=⟨Tryz.f190.name,by decide,Tryz.func190.trans (congrArg some (by kernel_rfl))⟩
 f26:=⟨Tryz.f191.name,by decide,Tryz.func191.trans (congrArg some (by kernel_rfl))⟩
 f27:=⟨Tryz.f192.name,by decide,Tryz.func192.trans (congrArg some (by kernel_rfl))⟩
 f28:=Tryz.func172.trans (congrArg some (by kernel_rfl))
 f29:=Tryz.func173.trans (congrArg some (by kernel_rfl))
 f46:=⟨Tryz.f222.name,by decide,Tryz.func222.trans (congrArg some (by kernel_rfl))⟩
 f47:=Tryz.func198.trans (congrArg some (by kernel_rfl))
 f48:=Tryz.func199.trans (congrArg some (by kernel_rfl))
 f49:=⟨Tryz.f223.name,by decide,Tryz.func223.trans (congrArg some (by kernel_rfl))⟩
 f50:=⟨Tryz.f224.name,by decide,Tryz.func224.trans (congrArg some (by kernel_rfl))⟩
 f57:=⟨Tryz.f237.name,by decide,Tryz.func237.trans (congrArg some (by kernel_rfl))⟩
 t0:=Tryz.underlying0
 a0:=Tryz.isAgg0
 z0:=Tryz.sizeOf0
 v0:=Tryz.zeroValue0
 t3:=Tryz.underlying3
 a3:=Tryz.isAgg3
 z3:=Tryz.sizeOf3
 v3:=Tryz.zeroValue3
 t4:=Tryz.underlying4
 a4:=Tryz.isAgg4
 z4:=Tryz.sizeOf4
 v4:=Tryz.zeroValue4
 t5:=Tryz.underlying5
 a5:=Tryz.isAgg5
 z5:=Tryz.sizeOf5
 v5:=Tryz.zeroValue5
 t9:=Tryz.underlying9
 a9:=Tryz.isAgg9
 z9:=Tryz.sizeOf9
 v9:=Tryz.zeroValue9
 t22:=Tryz.underlying36
 a22:=Tryz.isAgg36
 z22:=Tryz.sizeOf36
 v22:=Tryz.zeroValue36
 t25:=Tryz.underlying181
 a25:=Tryz.isAgg181
 z25:=Tryz.sizeOf181
 v25:=Tryz.zeroValue181
 t39:=Tryz.underlying216
 a39:=Tryz.isAgg216
 z39:=Tryz.sizeOf216
 v39:=Tryz.zeroValue216
 t45:=Tryz.underlying261
 a45:=Tryz.isAgg261
 z45:=Tryz.sizeOf261
 v45:=Tryz.zeroValue261
 t46:=Tryz.underlying262
 a46:=Tryz.isAgg262
 z46:=Tryz.sizeOf262
 v46:=Tryz.zeroValue262
 t50:=Tryz.underlying191
 a50:=Tryz.isAgg191
 z50:=Tryz.sizeOf191
 v50:=Tryz.zeroValue191
 t53:=Tryz.underlying28
 a53:=Tryz.isAgg28
 z53:=Tryz.sizeOf28
 v53:=Tryz.zeroValue28
 t55:=Tryz.underlying24
 a55:=Tryz.isAgg24
 z55:=Tryz.sizeOf24
 v55:=Tryz.zeroValue24
 t66:=Tryz.underlying283
 a66:=Tryz.isAgg283
 z66:=Tryz.sizeOf283
 v66:=Tryz.zeroValue283
 t70:=Tryz.underlying287
 a70:=Tryz.isAgg287
 z70:=Tryz.sizeOf287
 v70:=Tryz.zeroValue287
 t76:=Tryz.underlying312
 a76:=Tryz.isAgg312
 z76:=Tryz.sizeOf312
 v76:=Tryz.zeroValue312
 t77:=Tryz.underlying101
 a77:=Tryz.isAgg101
 z77:=Tryz.sizeOf101
 v77:=Tryz.zeroValue101}
def Tryz.laysSortItem_ren:Go.Shelf.Ren:=⟨fun|6=>46|15=>116|14=>115|28=>172|29=>173|20=>164|21=>165|22=>166|23=>167|24=>168|25=>169|26=>170|27=>171|46=>197|47=>198|48=>199|49=>200|50=>201|57=>230|n=>n,fun|22=>73|24=>144|25=>147|3=>3|39=>216|0=>0|53=>28|55=>24|4=>4|46=>262|45=>261|50=>191|5=>5|9=>9|66=>283|70=>287|76=>312|77=>101|n=>n,fun|n=>n⟩
theorem Tryz.laysSortItem:Go.Proofs.SlLaysF0.n6 Tryz.prog Tryz.laysSortItem_ren:={
 mixed:=by kernel_rfl
 f6:=⟨Tryz.f46.name,by decide,Tryz.func46.trans (congrArg some (by kernel_rfl))⟩
 f14:=⟨Tryz.f115.name,by decide,Tryz.func115.trans (congrArg some (by kernel_rfl))⟩
 f15:=Tryz.func116.trans (congrArg some (by kernel_rfl))
 f20:=⟨Tryz.f164.name,by decide,Tryz.func164.trans (congrArg some (by kernel_rfl))⟩
 f21:=⟨Tryz.f165.name,by decide,Tryz.func165.trans (congrArg some (by kernel_rfl))⟩
 f22:=⟨Tryz.f166.name,by decide,Tryz.func166.trans (congrArg some (by kernel_rfl))⟩
 f23:=⟨Tryz.f167.name,by decide,Tryz.func167.trans (congrArg some (by kernel_rfl))⟩
 f24:=⟨Tryz.f168.name,by decide,Tryz.func168.trans (congrArg some (by kernel_rfl))⟩
 f25:=⟨Tryz.f169.name,by decide,Tryz.func169.trans (congrArg some (by kernel_rfl))⟩
 f26:=⟨Tryz.f170.name,by decide,Tryz.func170.trans (congrArg some (by kernel_rfl))⟩
 f27:=⟨Tryz.f171.name,by decide,Tryz.func171.trans (congrArg some (by kernel_rfl))⟩
 f28:=Tryz.func172.trans (congrArg some (by kernel_rfl))
 f29:=Tryz.func173.trans (congrArg some (by kernel_rfl))
 f46:=⟨Tryz.f197.name,by decide,Tryz.func197.trans (congrArg some (by kernel_rfl))⟩
 f47:=Tryz.func198.trans (congrArg some (by kernel_rfl))
 f48:=Tryz.func199.trans (congrArg some (by kernel_rfl))
 f49:=⟨Tryz.f200.name,by decide,Tryz.func200.trans (congrArg some (by kernel_rfl))⟩
 f50:=⟨Tryz.f201.name,by decide,Tryz.func201.trans (congrArg some (by kernel_rfl))⟩
 f57:=⟨Tryz.f230.name,by decide,Tryz.func230.trans (congrArg some (by kernel_rfl))⟩
 t0:=Tryz.underlying0
 a0:=Tryz.isAgg0
 z0:=Tryz.sizeOf0
 v0:=Tryz.zeroValue0
 t3:=Tryz.underlying3
 a3:=Tryz.isAgg3
 z3:=Tryz.sizeOf3
 v3:=Tryz.zeroValue3
 t4:=Tryz.underlying4
 a4:=Tryz.isAgg4
 z4:=Tryz.sizeOf4
 v4:=Tryz.zeroValue4
 t5:=Tryz.underlying5
 a5:=Tryz.isAgg5
 z5:=Tryz.sizeOf5
 v5:=Tryz.zeroValue5
 t9:=Tryz.underlying9
 a9:=Tryz.isAgg9
 z9:=Tryz.sizeOf9
 v9:=Tryz.zeroValue9
 t22:=Tryz.underlying73
 a22:=Tryz.isAgg73
 z22:=Tryz.sizeOf73
 v22:=Tryz.zeroValue73
 t25:=Tryz.underlying147
 a25:=Tryz.isAgg147
 z25:=Tryz.sizeOf147
 v25:=Tryz.zeroValue147
 t39:=Tryz.underlying216
 a39:=Tryz.isAgg216
 z39:=Tryz.sizeOf216
 v39:=Tryz.zeroValue216
 t45:=Tryz.underlying261
 a45:=Tryz.isAgg261
 z45:=Tryz.sizeOf261
 v45:=Tryz.zeroValue261
 t46:=Tryz.underlying262
 a46:=Tryz.isAgg262
 z46:=Tryz.sizeOf262
 v46:=Tryz.zeroValue262
 t50:=Tryz.underlying191
 a50:=Tryz.isAgg191
 z50:=Tryz.sizeOf191
 v50:=Tryz.zeroValue191
 t53:=Tryz.underlying28
 a53:=Tryz.isAgg28
 z53:=Tryz.sizeOf28
 v53:=Tryz.zeroValue28
 t55:=Tryz.underlying24
 a55:=Tryz.isAgg24
 z55:=Tryz.sizeOf24
 v55:=Tryz.zeroValue24
 t66:=Tryz.underlying283
 a66:=Tryz.isAgg283
 z66:=Tryz.sizeOf283
 v66:=Tryz.zeroValue283
 t70:=Tryz.underlying287
 a70:=Tryz.isAgg287
 z70:=Tryz.sizeOf287
 v70:=Tryz.zeroValue287
 t76:=Tryz.underlying312
 a76:=Tryz.isAgg312
 z76:=Tryz.sizeOf312
 v76:=Tryz.zeroValue312
 t77:=Tryz.underlying101
 a77:=Tryz.isAgg101
 z77:=Tryz.sizeOf101
 v77:=Tryz.zeroValue101}
end Go.Proofs
end

section
set_option linter.unusedVariables false
set_option linter.unusedSimpArgs false
namespace Go.Proofs.YtmpeiadlohbikaaGreatDoor
open Go.RowKit
open Go.ChangeMaps (setBlock)
theorem Fr.setBlockR(w:World)(g:Nat)(o:Obj):Fr [g] w (setBlock w g o):=⟨rfl,rfl,rfl,by simp[Go.ChangeMaps.setBlock],fun k _ hk=>by
 show(w.heap.setIfInBounds g o)[k]? =_
 rw[Array.getElem?_setIfInBounds_ne (fun e=>hk (by simp[e]))],Nat.le_refl _⟩
theorem rZ{w:World}{g:Nat}{o:Obj}(h:g<w.heap.size):(setBlock w g o).heap[g]? =some o:=by
 show(w.heap.setIfInBounds g o)[g]? =_
 rw[Array.getElem?_setIfInBounds_self_of_lt h]
def x9(s:List UInt8)(pos:Int):Int:=((Utf8.decode ⟨s.toArray⟩ pos.toNat).1:Int)
def r3(s:List UInt8)(pos:Int):Int:=((Utf8.decode ⟨s.toArray⟩ pos.toNat).2:Int)
theorem pz(s:List UInt8)(pos:Int):1≤r3 s pos:=by
 have:=Lib.width_pos ⟨s.toArray⟩ pos.toNat;unfold r3;omega
section
variable [db] {P:Program} {n:Nat} {env:aS} {w:World} {o:Oper} {K:aS→World→Prop} {H:cJ} {s:List UInt8}
theorem AK{t d:Nat}{x:Operand}(ho:o.op= .range t x)(hd:o.dst=some d)(hn:Nat.blt d n=true)(hx:env.ev x=some (sv s))(ht:P.underlying t=some .string)(h:Hp w H)
  (hK: ∀r w',Hp w' (H++ [(some r,.stringIter ⟨s.toArray⟩ 0)])→Fr [] w w'→w.heap.size≤r→K ((d,.pointer (some ⟨r,0,none⟩))::env) w'):b9 P n env w o K:=by
 refine gF hd hn (fun a r=>?_) (hK w.heap.size (w.alloc (.stringIter ⟨s.toArray⟩ 0)) (h.alloc _) (Fr.alloc w _) (Nat.le_refl _));unfold execOp;have:=run_range_string (P:=P) w t ⟨s.toArray⟩ ht;simp only[ho,r.eval hx,sv,Sem.run_bind,this,Result.andThen_ok];rfl
theorem DG{r ir d:Nat}{pos:Int}{x:Operand}(ho:o.op= .next x true)(hd:o.dst=some d)(hn:Nat.blt d n=true)(hx:env.ev x=some (.pointer (some ⟨r,0,none⟩)))(h:Hp w H)(hir:H[ir]? =some (some r,.stringIter ⟨s.toArray⟩ pos.toNat))(hp:0≤pos)
  (h0: ¬pos<s.length→K ((d,.tuple #[.bool false])::env) w)
  (h1: ∀w',pos<s.length→Hp w' (H.set ir (some r,.stringIter ⟨s.toArray⟩ (pos+r3 s pos).toNat))→Fr [r] w w'→K ((d,.tuple #[.bool true,.int .i64 pos,.int .i32 (x9 s pos)])::env) w'):b9 P n env w o K:=by
 have hs:(⟨s.toArray⟩:ByteArray).size=s.length:=by simp[ByteArray.size]
 by_cases hc:pos<s.length
 ·have hr:=Lib.run_next_any_at (P:=P) w r ⟨s.toArray⟩ pos.toNat o.type (h.at hir) (by rw[hs];omega);have hw:=pz s pos;have e1:(pos+r3 s pos).toNat=pos.toNat+(Utf8.decode ⟨s.toArray⟩ pos.toNat).2:=by unfold r3;omega
  have e2:((pos.toNat:Nat):Int)=pos:=by omega
  have hf:Fr [r] w (setBlock w r (.stringIter ⟨s.toArray⟩ (pos+r3 s pos).toNat)):=Fr.setBlockR w r _;refine gF hd hn (fun a q=>?_) (h1 (setBlock w r (.stringIter ⟨s.toArray⟩ (pos+r3 s pos).toNat)) hc (h.setAt hir hf (rZ (cO (h.at hir)))) hf);unfold execOp;simp only[ho,q.eval hx,Sem.run_bind,hr,Result.andThen_ok];rw[e1,e2];rfl
 ·have hr:=Lib.run_next_end_at (P:=P) w r ⟨s.toArray⟩ pos.toNat o.type (h.at hir) (by rw[hs];omega);refine gF hd hn (fun a q=>?_) (h0 hc);unfold execOp;simp only[ho,q.eval hx,Sem.run_bind,hr,Result.andThen_ok];rfl
end
end Go.Proofs.YtmpeiadlohbikaaGreatDoor
end

section
set_option linter.unusedVariables false
set_option linter.unusedSimpArgs false
set_option maxRecDepth 20000
namespace Go.Proofs.YtmpeiadlohbikaaGreatDoor.V
open Go.RowKit
def cH(s:List (List UInt8))(s3:Int)(r0:List (List UInt8)):Nat→Int→Int→(List (List UInt8))→((List (List UInt8)))⊕(Int×Int×(List (List UInt8)))
 |0,s3',s5,r0'=> .inr (s3',s5,r0')
 |fuel+1,s3',s5,r0'=>
  if s5<((s.length - s3.toNat:Nat):Int)then
   if(ix r0' (s3+s5))=(ix r0' (s3+(s5 - 1)))then
    cH s s3 r0 fuel s3' (s5+1) r0'
   else
    cH s s3 r0 fuel (s3'+1) (s5+1) (r0'.set s3'.toNat (ix r0' (s3+s5)))
  else
   .inr (s3',s5,r0')
def cI(s:List (List UInt8)):Nat→Int→(List (List UInt8))→((List (List UInt8)))⊕(Int×(List (List UInt8)))
 |0,s3,r0=> .inr (s3,r0)
 |fuel+1,s3,r0=>
  if s3<(s.length:Int)then
   if(ix r0 s3)=(ix r0 (s3 - 1))then
    match cH s s3 r0 (((s.length:Int)-(1:Int)).toNat+1) s3 (1:Int) r0 with
    | .inl r=> .inl r
    | .inr (s3',s5,r0')=>
     .inl ((r0'.take s3'.toNat++List.replicate (r0'.length - s3'.toNat) []).take s3'.toNat)
   else
    cI s fuel (s3+1) r0
  else
   .inr (s3,r0)
def di(s:List (List UInt8)):(List (List UInt8)):=
 if(s.length:Int)<2 then
  s
 else
  match cI s (((s.length:Int)-(1:Int)).toNat+1) (1:Int) s with
  | .inl r=>r
  | .inr (s3,r0)=>
   r0
theorem nH(s:List (List UInt8)):di s=dd s:=by
 unfold di;split
 ·rename_i h0;match s,h0 with
  | [],_=>rfl
  | [a],_=>rfl
  |a::b::l,h=>simp at h;omega
 ·rename_i h;have hs:1≤s.length:=by omega
  rcases rK s ([]:List UInt8) (cH s) (cI s) (fun _ _ _ _ _ _=>rfl) (fun fuel s3 r0=>by
   rw[cI];generalize cH s s3 r0 (((s.length:Int)-(1:Int)).toNat+1) s3 (1:Int) r0=X;rcases X with r|⟨a,b,c⟩<;>rfl) hs (((s.length:Int)-(1:Int)).toNat+1) 1 (by omega) (by omega) (by
   match s,hs with
   |a::l,_=>rfl) (by omega)with e|⟨⟨q,e⟩,e2⟩
  ·rw[e]
  ·rw[e];exact e2.symm
theorem uT{P:Program}{fi tE:Nat}{fn:Go.Func}{ρf ρt:Nat→Nat}(hen:bu P fi=true)(hf:P.funcs[fi]? =some fn)(hb:fn.body=some (gH ρf ρt (eu Tryz.f92)))(hn:fn.ntmps=61)(hr:fn.results= #[.tmp 2])(hmx:P.follows .mixedOrders=true)(i64:P.underlying (ρt 3)=some (.int .i64))(hE:tE=ρt 61)(es:aH P (ρt 36)=some (tE,1))(un:P.underlying (ρt 36)=some (.slice tE))(pl:eE P tE=true)(sz:(P.info? tE).map (·.size)=some 1)(zc:zeroCells P tE=some [sv []])
  (X:List Nat) (w:World) (s:List (List UInt8)) (A_s:Option Addr) (c_s:Nat) (s1:List Value) (hs:St X w [(ap A_s,Cl (s.flatMap (fun x=> [sv x])++s1) tE)] []) (z4:Ow A_s s.length c_s 1 (s.flatMap (fun x=> [sv x])) s1):
  Fn P fi [.slice A_s s.length c_s] w fun v w'=> ∃(A':Option Addr) (c':Nat) (sp':List Value),v= .slice A' (di s).length c'∧Ow A' (di s).length c' 1 ((di s).flatMap (fun x=> [sv x])) sp'∧St X w' [(ap A',Cl ((di s).flatMap (fun x=> [sv x])++sp') tE)] []∧Fr (aT [(ap A_s,Cl (s.flatMap (fun x=> [sv x])++s1) tE)]) w w'∧(∀k∈aT [(ap A',Cl ((di s).flatMap (fun x=> [sv x])++sp') tE)],k∈(aT [(ap A_s,Cl (s.flatMap (fun x=> [sv x])++s1) tE)])∨w.heap.size≤k):=by
 refine ki 61 hen hf hb hn rfl ?_;dsimp only[dX];subst hE;have hs0:=hs;have st:St X w [(ap A_s,Cl (s.flatMap (fun x=> [sv x])++s1) (ρt 61))] []:=hs;have z2: ∀g,ap A_s=some g→g∈(aT [(ap A_s,Cl (s.flatMap (fun x=> [sv x])++s1) (ρt 61))])∨w.heap.size≤g:=fun g hg=> .inl (by simp[aT,hg]);have z3:=Ow.le z4;have hF:=Fr.refl (aT [(ap A_s,Cl (s.flatMap (fun x=> [sv x])++s1) (ρt 61))]) w;refine sq fun _ k1=>rg (eM rfl (Ln k1 (sq fun _ k2=>sq fun _ k3=>rg (Lm rfl (Ly rfl (xc rfl un) (Ly rfl (AL rfl) (Ln k3 (cD rfl (fun hc1=>?_) (fun hc1=>?_)))))))))
 ·refine sq fun _ k4=>rg (Lm rfl (eM rfl (Ln k4 (wR (jU (fR (i6 hr rfl) ?_))))));unfold di;rewrite[if_pos hc1];exact⟨_,_,_,rfl,z4,(st.pk [0] (by decide)).pickK [],hF,kT z2 kR⟩
 refine sk k2 (sq fun _ k5=>sq fun _ k6=>rg (eM rfl (Ln k6 (bV (lp (fun q E W=> ∃(s3:Int) (r0:List (List UInt8)),E= [(0,.slice A_s s.length c_s),(3,.int .i64 s3)]∧jq q (fun m=>(cI s m s3 r0=cI s (((s.length:Int)-(1:Int)).toNat+1) (1:Int) s∧((s.length:Int)- s3).toNat<m)) (cI s (((s.length:Int)-(1:Int)).toNat+1) (1:Int) s= .inr (s3,r0))∧(1≤s3∧1≤s3)∧Ow A_s s.length c_s 1 (r0.flatMap (fun x=> [sv x])) s1∧(r0.length=s.length)∧St X W [(ap A_s,Cl (r0.flatMap (fun x=> [sv x])++s1) (ρt 61))] []∧Fr (aT [(ap A_s,Cl (s.flatMap (fun x=> [sv x])++s1) (ρt 61))]) w W) (((s.length:Int)-(1:Int)).toNat+1) [(0,_),(3,_)] ⟨rfl,rfl,trivial⟩ ⟨_,_,rfl,⟨rfl,Nat.lt_succ_self _⟩,by first|omega|(simp;done)|(simp;omega),z4,rfl,st,hF⟩ k5 ?_ fun hout1=>?_)))))
 ·rintro E w1 ⟨s3,r0,rfl,hLk1,hinv,howr0,hlmr0,st,hF⟩;unfold jq at hLk1;dsimp only at hLk1;refine sq fun _ k7=>rg (Lm rfl (eM rfl (Ln k7 (wR (fR (i6 hr rfl) ?_)))));unfold di;rewrite[if_neg hc1,hLk1];(try dsimp only);exact⟨A_s,c_s,s1,by rw[hlmr0],by rw[hlmr0];exact howr0,(st.pk [0] (by decide)).pickK [],hF,kT z2 kR⟩
 rintro m E w2 ⟨s3,r0,rfl,⟨hL1,hmu⟩,hinv,howr0,hlmr0,st,hF⟩;obtain⟨fuel,rfl⟩: ∃q,m=q+1:=⟨m - 1,by omega⟩;have z1:=Ow.le howr0;refine sq fun _ k8=>sq fun _ k9=>rg (Lm rfl (Lm rfl (Ly rfl (xc rfl un) (Ly rfl (AL rfl) (Ln k9 (cD rfl (fun hc2=>?_) (fun hc2=>?_)))))))
 ·refine sk k8 (sq fun _ uV=>bV (sq fun _ yy=>?_));refine kN (fun W=>St X W (cK (Fd st) [0]) (IP st)) [(true,0),(true,1),(true,2),(true,3),(true,4),(true,5),(true,6),(true,7),(true,8),(true,9)] hmx (by kernel_rfl) (by kernel_rfl) rfl ((st.pk [0] (by decide)).drew) ?_;have st:=st.drew;have hF:=hF.step0 (Fr.drew _);refine Pm rfl (Pm rfl ?_);obtain⟨gi1,egi1⟩:=(howr0).some_ (by first|omega|(simp;done)|(simp;omega));subst egi1;refine Py rfl (gC (q:=s3) rfl rfl rfl es (by first|omega|(simp;done)|(simp;omega)) (by first|omega|(simp;done)|(simp;omega))) ?_;refine Py rfl (jK (q:=s3) 0 rfl rfl pl (fun _ h=>iw.own (i:=0) h.hp rfl howr0 (by decide)) (fun _=>rfl) (by first|omega|(simp;done)|(simp;omega)) (by first|omega|(simp;done)|(simp;omega)) rfl) ?_;refine Pm rfl (Pm rfl (Py rfl (nP (c:=s3 - 1) rfl rfl rfl (co (by first|omega|(simp;done)|(simp;omega)))) ?_));refine Py rfl (gC (q:=s3 - 1) rfl rfl rfl es (by first|omega|(simp;done)|(simp;omega)) (by first|omega|(simp;done)|(simp;omega))) ?_;refine Py rfl (jK (q:=s3 - 1) 0 rfl rfl pl (fun _ h=>iw.own (i:=0) h.hp rfl howr0 (by decide)) (fun _=>rfl) (by first|omega|(simp;done)|(simp;omega)) (by first|omega|(simp;done)|(simp;omega)) rfl) ?_;refine Py rfl (Fl rfl rfl rfl) (nC (dK (yy _ _ (cE rfl (fun hc3=>?_) (fun hc3=>?_)))))
  ·refine sq fun _ yx=>rg (Lm rfl (Lm rfl (Ly rfl (mL (enc:=(fun x=> [sv x])) (xs:=r0) (p:=s3) rfl rfl (hlmr0).symm es rfl rfl (by first|omega|(simp;done)|(simp;omega)) (by first|omega|(simp;done)|(simp;omega)) howr0) ?_)));refine eM rfl (Ln yx (sq fun _ yz=>sq fun _ Ag=>rg (eM rfl (Ln Ag (bV (lp (fun q E W=> ∃(s3':Int) (s5:Int) (r0':List (List UInt8)),E= [(0,.slice (some ⟨gi1,0,none⟩) s.length c_s),(3,.int .i64 s3'),(4,.slice (some ⟨gi1,0+s3.toNat*1,none⟩) (s.length - s3.toNat) (c_s - s3.toNat)),(5,.int .i64 s5)]∧jq q (fun m=>(cH s s3 r0 m s3' s5 r0'=cH s s3 r0 (((s.length:Int)-(1:Int)).toNat+1) s3 (1:Int) r0∧((s.length:Int)- s5).toNat<m)) (cH s s3 r0 (((s.length:Int)-(1:Int)).toNat+1) s3 (1:Int) r0= .inr (s3',s5,r0'))∧(1≤s5∧s3≤s3'∧s3'<s3+s5∧s5≤s.length - s3∧1≤s3)∧Ow (some ⟨gi1,0,none⟩) s.length c_s 1 (r0'.flatMap (fun x=> [sv x])) s1∧(r0'.length=s.length)∧St X W [(ap (some ⟨gi1,0,none⟩),Cl (r0'.flatMap (fun x=> [sv x])++s1) (ρt 61))] []∧Fr (aT [(ap (some ⟨gi1,0,none⟩),Cl (s.flatMap (fun x=> [sv x])++s1) (ρt 61))]) w W) (((s.length:Int)-(1:Int)).toNat+1) [(0,_),(3,_),(4,_),(5,_)] ⟨rfl,rfl,rfl,rfl,trivial⟩ ⟨_,_,_,rfl,⟨rfl,Nat.lt_succ_self _⟩,by first|omega|(simp;done)|(simp;omega),howr0,hlmr0,st,hF⟩ yz ?_ fun hout2=>?_))))))
   ·rintro E w3 ⟨s3',s5,r0',rfl,hLk2,hinv,howr0',hlmr0',st,hF⟩;unfold jq at hLk2;dsimp only at hLk2;refine sq fun _ Aj=>rg (Lm rfl (Lm rfl (Ly rfl (mL (enc:=(fun x=> [sv x])) (xs:=r0') (p:=s3') rfl rfl (hlmr0').symm es rfl rfl (by first|omega|(simp;done)|(simp;omega)) (by first|omega|(simp;done)|(simp;omega)) howr0') ?_)));refine La rfl (pG (i:=0) (enc:=(fun x=> [sv x])) (xs:=r0') (u:= []) (p:=s3') rfl rfl rfl (hlmr0').symm es zc rfl (fun _=>rfl) (by intro v hv;simp only[List.mem_singleton]at hv;subst hv;rfl) howr0' (by first|omega|(simp;done)|(simp;omega)) (by first|omega|(simp;done)|(simp;omega)) st.hp rfl (fun w4 how1 (hp:Hp w4 [_]) hf=>?_));have st:St X w4 [_] []:=st.set (i:=0) rfl hp hf;have st:St X w4 [_] []:=st;have hF:=hF.step hf (fun y hy=>z2 y (by simp at hy;subst hy;rfl));have hln1:(r0'.take s3'.toNat++List.replicate (r0'.length - s3'.toNat) []).length=s.length:=by simp only[List.length_append,List.length_take,List.length_replicate];omega
    refine Ln Aj (sq fun _ Dl=>rg (Lm rfl (Lm rfl (Ly rfl (oq (enc:=(fun x=> [sv x])) (xs:=r0'.take s3'.toNat++List.replicate (r0'.length - s3'.toNat) []) (q:=s3') rfl rfl (hln1).symm es rfl rfl (by first|omega|(simp;done)|(simp;omega)) (by first|omega|(simp;done)|(simp;omega)) how1) ?_))));have how2:=Ow.cut (enc:=(fun x=> [sv x])) (xs:=r0'.take s3'.toNat++List.replicate (r0'.length - s3'.toNat) []) (fun _=>rfl) how1 (hln1).symm s3'.toNat;have st:St X _ [_] []:=st.conv (i:=0) rfl (kL s3'.toNat);refine eM rfl (Ln Dl (wR (ub (jU (jU (ub (jU (fR (i6 hr rfl) ?_))))))));have hret1:cI s (((s.length:Int)-(1:Int)).toNat+1) (1:Int) s= .inl ((r0'.take s3'.toNat++List.replicate (r0'.length - s3'.toNat) []).take s3'.toNat):=by rewrite[←hL1,cI];rewrite[if_pos hc2,if_pos hc3,hLk2];(try dsimp only);all_goals rfl
    have he3:di s=((r0'.take s3'.toNat++List.replicate (r0'.length - s3'.toNat) []).take s3'.toNat):=by unfold di;rewrite[if_neg hc1,hret1];(try dsimp only);all_goals rfl
    rewrite[he3];exact⟨_,_,_,rfl,how2,(st.pk [0] (by decide)).pickK [],hF,kT z2 kR⟩
   rintro m E w5 ⟨s3',s5,r0',rfl,⟨hL2,hmu⟩,hinv,howr0',hlmr0',st,hF⟩;obtain⟨fuel,rfl⟩: ∃q,m=q+1:=⟨m - 1,by omega⟩;have hlehowr0':=Ow.le howr0';refine sq fun _ Dm=>sq fun _ k18=>rg (Lm rfl (Lm rfl (Ly rfl (xc rfl un) (Ly rfl (AL rfl) (Ln k18 (cD rfl (fun hc4=>?_) (fun hc4=>?_)))))))
   ·refine sk Dm (sq fun _ k19=>bV (sq fun _ k20=>?_));refine kN (fun W=>St X W (cK (Fd st) [0]) (IP st)) [(true,0),(true,1),(true,2),(true,3),(true,4),(true,5),(true,6),(true,7),(true,8),(true,9)] hmx (by kernel_rfl) (by kernel_rfl) rfl ((st.pk [0] (by decide)).drew) ?_;have st:=st.drew;have hF:=hF.step0 (Fr.drew _);refine Pm rfl (Pm rfl (Py rfl (nA (p:=s3) (q:=s5) rfl rfl rfl es (by first|omega|(simp;done)|(simp;omega)) (by first|omega|(simp;done)|(simp;omega)) (by first|omega|(simp;done)|(simp;omega))) ?_));refine Py rfl (jK (q:=s3+s5) 0 rfl rfl pl (fun _ h=>iw.own (i:=0) h.hp rfl howr0' (by decide)) (fun _=>rfl) (by first|omega|(simp;done)|(simp;omega)) (by first|omega|(simp;done)|(simp;omega)) rfl) ?_;refine Pm rfl (Pm rfl (Py rfl (nP (c:=s5 - 1) rfl rfl rfl (co (by first|omega|(simp;done)|(simp;omega)))) ?_));refine Py rfl (nA (p:=s3) (q:=s5 - 1) rfl rfl rfl es (by first|omega|(simp;done)|(simp;omega)) (by first|omega|(simp;done)|(simp;omega)) (by first|omega|(simp;done)|(simp;omega))) ?_;refine Py rfl (jK (q:=s3+(s5 - 1)) 0 rfl rfl pl (fun _ h=>iw.own (i:=0) h.hp rfl howr0' (by decide)) (fun _=>rfl) (by first|omega|(simp;done)|(simp;omega)) (by first|omega|(simp;done)|(simp;omega)) rfl) ?_;refine Py rfl (Fm rfl rfl rfl) (nC (dK (k20 _ _ (cN rfl (fun hc5=>?_) (fun hc5=>?_)))))
    ·refine sq fun _ k21=>rg (Lm rfl (Lm rfl (Lm rfl (Lm rfl (Ly rfl (nA (p:=s3) (q:=s5) rfl rfl rfl es (by first|omega|(simp;done)|(simp;omega)) (by first|omega|(simp;done)|(simp;omega)) (by first|omega|(simp;done)|(simp;omega))) ?_)))));refine Ly rfl (jK (q:=s3+s5) 0 rfl rfl pl (fun _ e=>e▸iw.own (i:=0) st.hp rfl howr0' (by decide)) (fun _=>rfl) (by first|omega|(simp;done)|(simp;omega)) (by first|omega|(simp;done)|(simp;omega)) rfl) ?_;refine Ly rfl (gC (q:=s3') rfl rfl rfl es (by first|omega|(simp;done)|(simp;omega)) (by first|omega|(simp;done)|(simp;omega))) ?_;refine La rfl (pI (i:=0) (q:=s3') (u:=ix r0' (s3+s5)) rfl rfl rfl rfl rfl (fun _=>rfl) sz (by intro v hv;simp only[List.mem_singleton]at hv;subst hv;rfl) howr0' st.hp rfl (by first|omega|(simp;done)|(simp;omega)) (by first|omega|(simp;done)|(simp;omega)) (by decide) (fun w6 how3 (hp:Hp w6 [_]) hf=>?_));have st:St X w6 [_] []:=st.set (i:=0) rfl hp hf;have st:St X w6 [_] []:=st;have hF:=hF.step hf (fun y hy=>z2 y (by simp at hy;subst hy;rfl));have hln2:(r0'.set s3'.toNat (ix r0' (s3+s5))).length=s.length:=by rw[List.length_set];exact hlmr0'
     rewrite[hln2]at how3;refine Ln k21 (rg (Lm rfl (Ly rfl (dS (c:=s3'+1) rfl rfl rfl (co (by first|omega|(simp;done)|(simp;omega)))) ?_)));refine eM rfl (dN (mJ (dK (k19 _ _ (rg (Lm rfl (Ly rfl (dS (c:=s5+1) rfl rfl rfl (co (by first|omega|(simp;done)|(simp;omega)))) ?_)))))));refine eM rfl (dN (dK (?_)));exact⟨fuel,[(0,_),(3,_),(4,_),(5,_)],Nat.lt_succ_self _,⟨rfl,rfl,rfl,rfl,trivial⟩,(s3'+1),(s5+1),(r0'.set s3'.toNat (ix r0' (s3+s5))),rfl,⟨by rewrite[←hL2,cH];rewrite[if_pos hc4,if_neg hc5];rfl,by first|omega|(simp;done)|(simp;omega)⟩,by first|omega|(simp;done)|(simp;omega),how3,hln2,(st.pk [0] (by decide)).pickK [],hF⟩
    refine fH (mJ (dK (k19 _ _ (rg (Lm rfl (Ly rfl (dS (c:=s5+1) rfl rfl rfl (co (by first|omega|(simp;done)|(simp;omega)))) ?_))))));refine eM rfl (dN (dK (?_)));exact⟨fuel,[(0,_),(3,_),(4,_),(5,_)],Nat.lt_succ_self _,⟨rfl,rfl,rfl,rfl,trivial⟩,s3',(s5+1),r0',rfl,⟨by rewrite[←hL2,cH];rewrite[if_pos hc4,if_pos hc5];rfl,by first|omega|(simp;done)|(simp;omega)⟩,by first|omega|(simp;done)|(simp;omega),howr0',hlmr0',(st.pk [0] (by decide)).pickK [],hF⟩
   refine f4 (jV (jV (iZ (dK (?_)))));exact hout2 _ [(0,_),(3,_),(4,_),(5,_)] _ ⟨rfl,rfl,rfl,rfl,trivial⟩ ⟨s3',s5,r0',rfl,show _=_ from by rewrite[←hL2,cH];rewrite[if_neg hc4];rfl,by first|omega|(simp;done)|(simp;omega),howr0',hlmr0',(st.pk [0] (by decide)).pickK [],hF⟩
  refine fH (mJ (dK (uV _ _ (rg (Lm rfl (Ly rfl (dS (c:=s3+1) rfl rfl rfl (co (by first|omega|(simp;done)|(simp;omega)))) ?_))))));refine eM rfl (dN (dK (?_)));exact⟨fuel,[(0,_),(3,_)],Nat.lt_succ_self _,⟨rfl,rfl,trivial⟩,(s3+1),r0,rfl,⟨by rewrite[←hL1,cI];rewrite[if_pos hc2,if_neg hc3];rfl,by first|omega|(simp;done)|(simp;omega)⟩,by first|omega|(simp;done)|(simp;omega),howr0,hlmr0,(st.pk [0] (by decide)).pickK [],hF⟩
 refine f4 (jV (jV (iZ (dK (?_)))));exact hout1 _ [(0,_),(3,_)] _ ⟨rfl,rfl,trivial⟩ ⟨s3,r0,rfl,show _=_ from by rewrite[←hL1,cI];rewrite[if_neg hc2];rfl,by first|omega|(simp;done)|(simp;omega),howr0,hlmr0,(st.pk [0] (by decide)).pickK [],hF⟩
section
variable {U:cw} {P:Program} {fi tE:Nat} {fn:Go.Func} {ρf ρt:Nat→Nat} {X:List Nat} {w:World}
theorem Ju{Y:List Nat}{S:World→Prop}: ∀{xs:List (List UInt8)} {vs:List Value},ba U Y S .str xs vs→vs=xs.flatMap (fun x=> [sv x])∧ ∀x∈xs,x.length≤9223372036854775807
 | [],vs,h=>⟨h.nil_inv,by simp⟩
 |x::xs,vs,h=>by
  obtain⟨v1,v2,rfl,h1,hl,hr⟩:=h.cons_inv;obtain⟨e1,e2⟩:=h1.inv;obtain⟨e3,e4⟩:=Ju hr;refine⟨by rw[show v1=_ from e1,e3];rfl,fun y hy=>?_⟩;rcases List.mem_cons.1 hy with rfl|hy
  ·exact e2
  ·exact e4 y hy
theorem Dg{Y:List Nat}{S:World→Prop}: ∀(xs:List (List UInt8)),(∀x∈xs,x.length≤9223372036854775807)→ba U Y S .str xs (xs.flatMap (fun x=> [sv x]))
 | [],_=> .nil _
 |x::xs,h=> .cons .str x xs [sv x] _ (aK.str x (h x (by simp))) rfl (Dg xs fun y hy=>h y (by simp[hy]))
theorem tq [ay]{ρ:Nat→Rz}{n i:Nat}{H:Hs U}{xs:List (List UInt8)}{v:Value}(M:bH U X (· =w) ρ n H)(hl:aI H i=some (.row 0 .str xs tE))(h:de (Vw U X w ρ n H) ⟨false,[(1,.own i 0)]⟩ v):
  ∃(sp:List Value),i<n∧(∀x∈xs,x.length≤9223372036854775807)∧v= .slice (ρ i).A xs.length (ρ i).c∧Ow (ρ i).A xs.length (ρ i).c 1 (xs.flatMap (fun x=> [sv x])) sp∧ ∀g,ap (ρ i).A=some g→w.heap[g]? =some (Cl (xs.flatMap (fun x=> [sv x])++sp) tE):=by
 obtain⟨hi,A,l,c,e1,hnow⟩:=(show Vw U X w ρ n H (.own i 0) [v]from(cg.one1 h).1);injection e1 with e1;subst e1;obtain⟨rfl,rfl,rfl⟩:=(hnow _ _ _ (by rw[hl];rfl)).2 rfl;obtain⟨hm,cs,sp,hdx,how0,hw⟩:=M.ent _ (ar hl);obtain⟨e1,e2⟩:=Ju hdx;subst e1;exact⟨sp,hi,e2,rfl,how0,fun g hg=>hw g hg w rfl⟩
def MB(l:List (List UInt8)):List (List UInt8):=dd l
def qp(U:cw)(tE:Nat):bG U:=⟨[.n],fun xs es K=> ∃l:List (List UInt8),xs= [⟨false,[(1,.own 0 0)]⟩]∧es= [.row 0 .str l tE]∧K (.v ⟨false,[(1,.own 0 1)]⟩) [.row 1 .str (MB l) tE]⟩
theorem uU(hen:bu P fi=true)(hf:P.funcs[fi]? =some fn)(hb:fn.body=some (gH ρf ρt (eu Tryz.f92)))(hn:fn.ntmps=61)(hr:fn.results= #[.tmp 2])(hmx:P.follows .mixedOrders=true)(i64:P.underlying (ρt 3)=some (.int .i64))(hE:tE=ρt 61)(es:aH P (ρt 36)=some (tE,1))(un:P.underlying (ρt 36)=some (.slice tE))(pl:eE P tE=true)(sz:(P.info? tE).map (·.size)=some 1)(zc:zeroCells P tE=some [sv []]):dz P U fi (qp U tE):=fun [F:ay] hpr X w ρ es0 xs vs K M hv hrun=>by
 obtain⟨l,rfl,rfl,hK⟩:=hrun;obtain⟨v,us,rfl,h1,h3⟩:=hv;rw[show us= []from h3];have hl:aI (aV 0 [(aU.row 0 .str l tE:aU U)]) 0=some (.row 0 .str l tE):=rfl;obtain⟨sp,hi,hlen,rfl,how0,hw⟩:=tq M hl h1;have dj: ∀g,ap (ρ 0).A=some g→g∉X:=fun g hg=>M.dj g (gU (s:= .str) hl hg);refine Fn.mono (uT hen hf hb hn hr hmx i64 hE es un pl sz zc X w l (ρ 0).A (ρ 0).c sp (oR (M.lo w rfl) hw dj) how0) ?_;rintro v w' ⟨A',c',sp',rfl,how,st,hf',hk⟩;rw[nH]at how st⊢;rw[dZ]at hf';obtain⟨ρ',a1,a2,a3⟩:=De (el:=tE) (s:= .str) M hi hl (show 0<1 from Nat.one_pos) hf' (fun g' hg'=>(hk g' (by simp[aT,nH,hg'])).imp (fun h=>by rw[dZ]at h;simpa using h) id) (Dg (dd l) fun x hx=>hlen x ((uY l x).1 hx)) how (fun g' hg'=>st.hp.at (i:=0) (by rw[hg'];rfl));exact⟨_,_,ρ',hK,a1,a2,a3⟩
def z8(U:cw)(tE:Nat):bG U:=⟨[.n],fun xs es K=> ∃l:List (List UInt8),xs= [⟨false,[(1,.own 0 0)]⟩]∧es= [.row 0 .str l tE]∧l.length<4611686018427387904∧K (.tup []) [.row 0 .str (gD l) tE]⟩
open Go.Shelf Go.Lib Go.Sort in
theorem Dh(hen:bu P fi=true)
  (hC: ∀(blk cap:Nat) (ss:List (List UInt8)) (w:World),Holds encStr w blk 0 ss.toArray→blk<w.heap.size→ss.length<4611686018427387904→Calls P fi #[.slice (some ⟨blk,0,none⟩) ss.length cap] w fun e w'=>e= .returned (.tuple #[])∧ ∃n os,w'=grow (putRow encStr (Sort.ahead w n) blk 0 (ss.mergeSort fun x y=>decide (x≤y)).toArray) os)
  (hN: ∀(p:Option Addr) (cap:Nat) (w:World),Calls P fi #[.slice p 0 cap] w fun e w'=>e= .returned (.tuple #[])∧w'=w):dz P U fi (z8 U tE):=fun [F:ay] hpr X w ρ es0 xs vs K M hv hrun=>by
 obtain⟨l,rfl,rfl,h62,hK⟩:=hrun;obtain⟨v,us,rfl,h1,h3⟩:=hv;rw[show us= []from h3];have hl:aI (aV 0 [(aU.row 0 .str l tE:aU U)]) 0=some (.row 0 .str l tE):=rfl;obtain⟨sp,hi,hlen,rfl,how0,hw⟩:=tq M hl h1;have dj: ∀g,ap (ρ 0).A=some g→g∉X:=fun g hg=>M.dj g (gU (s:= .str) hl hg);refine Fn.mono (ye hen hC hN X w l (ρ 0).A (ρ 0).c sp (oR (M.lo w rfl) hw dj) how0 h62) ?_;rintro v w' ⟨rfl,how,e,st,hf'⟩;rw[←e]at how;rw[dZ]at hf';obtain⟨ρ',a2,a3⟩:=Jt (el:=tE) (s:= .str) M hl (show 0<1 from Nat.one_pos) hf' (List.length_mergeSort _) (Dg (gD l) fun x hx=>hlen x ((List.mergeSort_perm _ _).mem_iff.1 hx)) how (fun g' hg'=>st.hp.at (i:=0) (by rw[hg'];rfl));exact⟨_,_,ρ',hK,⟨[],rfl,rfl⟩,a2,a3⟩
def Aa(U:cw):bG U:=⟨[.d .str,.d .str],fun xs es K=> ∃s sep:List UInt8,xs= [⟨false,[(1,.d .str s)]⟩,⟨false,[(1,.d .str sep)]⟩]∧es= []∧s.length≤1000000∧1≤sep.length∧K (.v ⟨false,[(1,.d (.sl .str) (Lib.split s sep))]⟩) []⟩
theorem oT(sep:ByteArray)(save:Nat): ∀(k:Nat) (s x:ByteArray),x∈Lib.splitB sep save k s→x.size≤s.size
 |0,s,x,h=>by simp[Lib.splitB]at h;subst h;exact Nat.le_refl _
 |k+1,s,x,h=>by
  unfold Lib.splitB at h;split at h
  ·simp at h;subst h;exact Nat.le_refl _
  ·rcases List.mem_cons.1 h with rfl|h
   ·rw[ByteArray.size_extract];omega
   ·have:=oT sep save k _ x h;rw[ByteArray.size_extract]at this;omega
theorem lq{s sep:List UInt8}(h1:1≤sep.length):(Lib.split s sep).length=Lib.count s sep+1:=by
 have:=Lib.splitB_all ⟨sep.toArray⟩ (by simpa[ByteArray.size]using h1) 0 (Lib.count s sep) ⟨s.toArray⟩ (by simp);have h2:=congrArg List.length (Lib.splitB_data ⟨sep.toArray⟩ 0 (Lib.count s sep) ⟨s.toArray⟩);rw[List.length_map,this]at h2;unfold Lib.split;simpa using h2.symm
theorem Di(hen:bu P fi=true)(hC: ∀(s sep:ByteArray) (m:Int) (w:World),s.size<4294967281→w.cell? ⟨0,0,none⟩=some (.int .i64 m)→1≤sep.size→Calls P fi #[.string s,.string sep] w fun e w'=>
   e= .returned (.slice (some ⟨w.heap.size,0,none⟩) (Lib.countB s sep+1) (Lib.countB s sep+1))∧w'=w.alloc (.cells ((Lib.splitB sep 0 (Lib.countB s sep) s).map Value.string).toArray tE)):dz P U fi (Aa U):=fun [F:ay] hpr X w ρ es0 xs vs K M hv hrun=>by
 obtain⟨s,sep,rfl,rfl,hs,h1,hK⟩:=hrun;obtain⟨v,us,rfl,ha,v2,us2,rfl,hb,h3⟩:=hv;rw[show us2= []from h3];obtain⟨e1,_⟩:=aK.inv (show aK U _ _ .str s [v]from(cg.one1 ha).1);obtain⟨e2,_⟩:=aK.inv (show aK U _ _ .str sep [v2]from(cg.one1 hb).1);injection e1 with e1;injection e2 with e2;subst e1;subst e2;obtain⟨mx,hm⟩:=M.gv.2 w rfl;refine⟨hen,(hC ⟨s.toArray⟩ ⟨sep.toArray⟩ mx w (by simp[ByteArray.size];omega) hm (by simpa[ByteArray.size]using h1)).mono ?_⟩;rintro e w' ⟨rfl,rfl⟩;have hlen:=lq (s:=s) h1;have hd2:=Lib.splitB_data ⟨sep.toArray⟩ 0 (Lib.count s sep) ⟨s.toArray⟩;have hsp:Lib.split s sep=(Lib.splitB ⟨sep.toArray⟩ 0 (Lib.count s sep) ⟨s.toArray⟩).map (·.data.toList):=by rw[hd2];rfl
 have hcells:((Lib.splitB ⟨sep.toArray⟩ 0 (Lib.countB ⟨s.toArray⟩ ⟨sep.toArray⟩) ⟨s.toArray⟩).map Value.string)=(Lib.split s sep).flatMap (fun x=> [sv x]):=by
  rw[ot,hsp,List.map_map];apply List.map_congr_left;intro x _;cases x;rfl
 have hcount:Lib.count s sep≤s.length:=by
  have:=Lib.countB_le ⟨sep.toArray⟩ (by simpa[ByteArray.size]using h1) s.length ⟨s.toArray⟩ (by simp[ByteArray.size]);simpa[ByteArray.size]using this
 have hf:Fr [] w (w.alloc (.cells ((Lib.splitB ⟨sep.toArray⟩ 0 (Lib.countB ⟨s.toArray⟩ ⟨sep.toArray⟩) ⟨s.toArray⟩).map Value.string).toArray tE)):=Fr.alloc w _;refine⟨_,rfl,_,_,ρ,hK,?_,(M.keep0 hf).1,(M.keep0 hf).2⟩;refine iz ?_;show aK U _ _ (.sl .str) (Lib.split s sep) [_]
 have hle: ∀x∈Lib.split s sep,x.length≤9223372036854775807:=fun x hx=>by
  rw[hsp]at hx;obtain⟨y,hy,rfl⟩:=List.mem_map.1 hx;have:=oT _ _ _ _ _ hy;have e1:y.size=y.data.toList.length:=Array.length_toList.symm;have e2:(⟨s.toArray⟩:ByteArray).size=s.length:=List.size_toArray;omega
 have hrd:lE (ao ρ (aV 0 ([]:List (aU U)))++X) (w.alloc (.cells ((Lib.splitB ⟨sep.toArray⟩ 0 (Lib.countB ⟨s.toArray⟩ ⟨sep.toArray⟩) ⟨s.toArray⟩).map Value.string).toArray tE)) (some ⟨w.heap.size,0,none⟩) ((Lib.split s sep).flatMap (fun x=> [sv x])):=by
  intro j v hj;refine⟨w.heap.size,0,rfl,fun hx=>?_,?_⟩
  ·have:=M.lo w rfl _ (show w.heap.size∈X from hx);omega
  ·rw[Nat.zero_add,hcells];unfold World.cell?;simp only[heap_alloc_new];simpa using hj
 have:=aK.sl (U:=U) (Y:=ao ρ (aV 0 [])++X) (S:=(· =w.alloc (.cells ((Lib.splitB ⟨sep.toArray⟩ 0 (Lib.countB ⟨s.toArray⟩ ⟨sep.toArray⟩) ⟨s.toArray⟩).map Value.string).toArray tE))) .str (Lib.split s sep) (some ⟨w.heap.size,0,none⟩) (Lib.count s sep+1) _ (Dg _ hle) (fun w2 h2=>by rw[h2];exact hrd) (Nat.le_of_eq hlen) (by unfold maxLen;omega);rw[show(List.length (α:=TT U.ty .str) (Lib.split s sep))=Lib.count s sep+1 from hlen]at this;exact this
end
theorem Dj(s:List UInt8)(p:Int):0≤x9 s p∧x9 s p≤1114111:=by have:=Lib.rune_le ⟨s.toArray⟩ p.toNat;unfold x9;omega
def dx(s:List UInt8)(f:Int→Bool)(truth:Bool):Nat→Int→(Int)⊕(Int)
 |0,pgr1=> .inr (pgr1)
 |fuel+1,pgr1=>
  if pgr1<(s.length:Int)then
   if(f (x9 s pgr1))=truth then
    .inl pgr1
   else
    dx s f truth fuel (pgr1+r3 s pgr1)
  else
   .inr (pgr1)
def ja(s:List UInt8)(f:Int→Bool)(truth:Bool):Int:=
 match dx s f truth (((s.length:Int)-(0:Int)).toNat+1) (0:Int)with
 | .inl r=>r
 | .inr (pgr1)=>
  (-1)
theorem xR(w:World)(s:List UInt8)(f1:Value)(f:Int→Bool)(truth:Bool)(z1: ∀(w1:World) (x0:Int),Fr ([]) w w1→0≤x0∧x0≤1114111→pA Tryz.prog f1 [.int .i32 x0] w1 fun v w2=>v= .bool (f x0)∧Fr [] w1 w2):
  Fn Tryz.prog 161 [sv s,f1,.bool truth] w fun v w'=>v= .int .i64 (ja s f truth)∧Fr [] w w':=by
 refine ki 21 (by kernel_rfl) Tryz.func161 rfl rfl rfl ?_;dsimp only[dX];have st:=DI (X:= []) (w:=w) (by simp[Lo]);have hF:=Fr.refl ([]) w;refine sq fun _ k1=>rg (eM rfl (Ln k1 (sq fun _ k2=>sq fun _ k3=>rg (Lm rfl (La rfl (AK (s:=s) rfl rfl rfl rfl Tryz.underlying9 st.hp (fun gr1 w1 (hp:Hp w1 [_]) hf hg1=>?_)))))));have st:St [] w1 [_] []:=st.push hp hf hg1;have hg1:=Nat.le_trans hF.size hg1;have hF:=hF.step0 hf;refine Ln k3 (bV (lp (fun q E W=> ∃(pgr1:Int),E= [(1,f1),(2,.bool truth),(10,.pointer (some ⟨gr1,0,none⟩))]∧jq q (fun m=>(dx s f truth m pgr1=dx s f truth (((s.length:Int)-(0:Int)).toNat+1) (0:Int)∧((s.length:Int)- pgr1).toNat<m)) (dx s f truth (((s.length:Int)-(0:Int)).toNat+1) (0:Int)= .inr (pgr1))∧(0≤pgr1)∧St [] W [(some gr1,Obj.stringIter ⟨s.toArray⟩ pgr1.toNat)] []∧Fr ([]) w W) (((s.length:Int)-(0:Int)).toNat+1) [(1,_),(2,_),(10,_)] ⟨rfl,rfl,rfl,trivial⟩ ⟨_,rfl,⟨rfl,Nat.lt_succ_self _⟩,by first|omega|(simp;done)|(simp;omega),st,hF⟩ k2 ?_ fun hout1=>?_))
 ·rintro E w2 ⟨pgr1,rfl,hLk1,hinv,st,hF⟩;unfold jq at hLk1;dsimp only at hLk1;refine sq fun _ k4=>rg (eM rfl (Ln k4 (wR (fR (i6 rfl rfl) ?_))));unfold ja;rewrite[hLk1];(try dsimp only);exact⟨rfl,hF⟩
 rintro m E w3 ⟨pgr1,rfl,⟨hL1,hmu⟩,hinv,st,hF⟩;obtain⟨fuel,rfl⟩: ∃q,m=q+1:=⟨m - 1,by omega⟩;refine sq fun _ k5=>rg ?_;have hdw1:=pz s pgr1;refine D2 (mR rfl) (DG (ir:=0) (s:=s) (pos:=pgr1) rfl rfl rfl rfl st.hp rfl (by omega) (fun hc1=>?_) (fun w4 hc1 (hp:Hp w4 [_]) hf=>?_))
 ·refine Lx rfl (Ln k5 (sq fun _ k6=>kM rfl (f4 (jV (jV (iZ (dK (?_))))))));exact hout1 _ [(1,_),(2,_),(10,_)] _ ⟨rfl,rfl,rfl,trivial⟩ ⟨pgr1,rfl,show _=_ from by rewrite[←hL1,dx];rewrite[if_neg hc1];rfl,by first|omega|(simp;done)|(simp;omega),(st.pk [0] (by decide)).pickK [],hF⟩
 have st:St [] w4 [_] []:=st.set (i:=0) rfl hp hf;have st:St [] w4 [_] []:=st;have hF:=hF.step hf (by intro y hy;simp only[List.mem_cons,List.not_mem_nil,or_false]at hy;subst hy;first|(exact Or.inr (by omega))|(exact Or.inl (On _ _))|(exact Or.inl (by simp)));refine Lx rfl (Ln k5 (sq fun _ k7=>fW rfl (sk k7 (bV (sq fun _ k8=>rg (Lx rfl (Lx rfl (eM rfl (eM rfl (Ln k8 (sq fun _ k9=>rg (Lm rfl (Lm rfl (La rfl (Of st hF rfl (z1 _ (x9 s pgr1) hF (Dj s pgr1)) fun w5 st hF=>Lm rfl (Ly rfl (Fj rfl rfl rfl Tryz.underlying4) (Ln k9 (cE rfl (fun hc2=>?_) (fun hc2=>?_)))))))))))))))))))
 ·refine sq fun _ uV=>rg (Lm rfl (eM rfl (Ln uV (wR (ub (jU (ub (jU (fR (i6 rfl rfl) ?_)))))))));have hret1:dx s f truth (((s.length:Int)-(0:Int)).toNat+1) (0:Int)= .inl pgr1:=by rewrite[←hL1,dx];rewrite[if_pos hc1,if_pos hc2];rfl
  have he2:ja s f truth=pgr1:=by unfold ja;rewrite[hret1];(try dsimp only);all_goals rfl
  rewrite[he2];exact⟨rfl,hF⟩
 refine fH (mJ (dK (?_)));exact⟨fuel,[(1,_),(2,_),(10,_)],Nat.lt_succ_self _,⟨rfl,rfl,rfl,trivial⟩,(pgr1+r3 s pgr1),rfl,⟨by rewrite[←hL1,dx];rewrite[if_pos hc1,if_neg hc2];rfl,by first|omega|(simp;done)|(simp;omega)⟩,by first|omega|(simp;done)|(simp;omega),(st.pk [0] (by decide)).pickK [],hF⟩
def jc(s:List UInt8)(f:Int→Bool):Int:=
 ja s f true
theorem xS(w:World)(s:List UInt8)(f1:Value)(f:Int→Bool)(z1: ∀(w1:World) (x0:Int),Fr ([]) w w1→0≤x0∧x0≤1114111→pA Tryz.prog f1 [.int .i32 x0] w1 fun v w2=>v= .bool (f x0)∧Fr [] w1 w2):
  Fn Tryz.prog 105 [sv s,f1] w fun v w'=>v= .int .i64 (jc s f)∧Fr [] w w':=by
 refine ki 8 (by kernel_rfl) Tryz.func105 rfl rfl rfl ?_;dsimp only[dX];have st:=DI (X:= []) (w:=w) (by simp[Lo]);have hF:=Fr.refl ([]) w;refine sq fun _ k1=>rg (eM rfl (Ln k1 (sq fun _ k2=>rg (Lm rfl (Lm rfl (La rfl (Pe st hF rfl (xR _ s f1 f true (fun w1 x0 hw hr=>z1 w1 x0 (hF.step0 hw) hr)) fun w1 st hF=>eM rfl (Ln k2 (wR (fR (i6 rfl rfl) ?_))))))))));unfold jc;exact⟨rfl,hF⟩
section
variable {U:cw}
def wJ(U:cw):bG U:=⟨[.d .str,.f1 (.int .i32)],fun xs es K=> ∃(s:List UInt8) (g:Int→Bool),xs= [⟨false,[(1,.d .str s)]⟩,⟨false,[(1,.f1 (.int .i32) g)]⟩]∧es= []∧K (.v ⟨false,[(1,.d (.int .i64) (jc s g))]⟩) []⟩
theorem qr(s:List UInt8)(f:Int→Bool)(truth:Bool): ∀(fuel:Nat) (p:Int),0≤p→(∃q,dx s f truth fuel p= .inl q∧0≤q∧q<s.length)∨ ∃q,dx s f truth fuel p= .inr q
 |0,p,h=> .inr ⟨p,rfl⟩
 |fuel+1,p,h=>by
  unfold dx;split
  ·split
   ·exact .inl ⟨p,rfl,h,by omega⟩
   ·have:=pz s p;exact qr s f truth fuel _ (by omega)
  ·exact .inr ⟨_,rfl⟩
theorem Ab:dz Tryz.prog U 105 (wJ U):=fun [F:ay] hpr X w ρ es0 xs vs K M hv hrun=>by
 obtain⟨s,g,rfl,rfl,hK⟩:=hrun;obtain⟨v,us,rfl,ha,v2,us2,rfl,hb,h3⟩:=hv;rw[show us2= []from h3];obtain⟨e1,hsl⟩:=aK.inv (show aK U _ _ .str s [v]from(cg.one1 ha).1);injection e1 with e1;subst e1;obtain⟨u',e,hv⟩:=(show Vw U X w ρ 0 (aV 0 []) (.f1 (.int .i32) g) [v2]from(cg.one1 hb).1);injection e with e;subst e;refine Fn.mono (xS w s _ g (fun w1 x0 hf hx=>?_)) ?_
 ·have mv:Mv (ao ρ (aV 0 ([]:List (aU U)))++X) (· =w) (ao ρ (aV 0 ([]:List (aU U)))++X) (· =w1):=Pt hf;have h1:=yu.call (U:=U) (a:= .int .i32) (v:= .int .i32 x0) (t:=(x0:Int)) (hv.mv mv) M.gY (aK.int .i32 x0 ⟨by omega,by omega⟩) rfl;rw[hpr]at h1;exact h1
 ·rintro v w' ⟨rfl,hf'⟩;have hr:eF .i64 (jc s g):=by
   unfold jc ja;rcases qr s g true (((s.length:Int)-(0:Int)).toNat+1) 0 (by omega)with⟨q,e,h1,h2⟩|⟨q,e⟩
   ·rw[e];exact⟨by simp only;omega,by simp only;omega⟩
   ·rw[e];exact(show eF .i64 (-1)from⟨by decide,by decide⟩)
  exact⟨_,_,ρ,hK,iz (aK.int .i64 _ hr),(M.keep0 hf').1,(M.keep0 hf').2⟩
end
end Go.Proofs.YtmpeiadlohbikaaGreatDoor.V
end

section
set_option linter.unusedVariables false
set_option linter.unusedSimpArgs false
namespace Go.Proofs.YtmpeiadlohbikaaGreatDoor.V
open Go.RowKit Go.Shelf Go.Lib Go.Sort
theorem fL.perm{α:Type}{l l':List α}{g:α→α→Int}(h:fL l g)(hp:l'.Perm l):fL l' g:=⟨h.1,fun x hx y hy=>h.2 x (hp.mem_iff.1 hx) y (hp.mem_iff.1 hy)⟩
theorem oU{α:Type}{l l':List α}{g:α→α→Int}(h:fL l g)(hp:l'.Perm l):bl g l'=bl g l:=by
 have tr: ∀a b c:α,(!(ltOf g) b a)=true→(!(ltOf g) c b)=true→(!(ltOf g) c a)=true:=fun a b c h1 h2=>by
  simp only[Bool.not_eq_true']at*;exact h.1.3 c b a h2 h1
 have tot: ∀a b:α,((!(ltOf g) b a)||(!(ltOf g) a b))=true:=fun a b=>by
  cases h1:ltOf g b a with
  |false=>rfl
  |true=>
   cases h2:ltOf g a b with
   |false=>rfl
   |true=>have:=h.1.2 _ _ _ h1 h2;rw[h.1.1]at this;cases this
 have p1:(bl g l').Perm l':=List.mergeSort_perm _ _;have p2:(bl g l).Perm l:=List.mergeSort_perm _ _;have s1:=List.pairwise_mergeSort (le:=fun x y=>!(ltOf g) y x) tr tot l';have s2:=List.pairwise_mergeSort (le:=fun x y=>!(ltOf g) y x) tr tot l;refine List.Perm.eq_of_pairwise (le:=fun x y=>(!(ltOf g) y x)=true) (fun a b ha hb h1 h2=>?_) s1 s2 ((p1.trans hp).trans p2.symm);simp only[Bool.not_eq_true']at h1 h2;exact h.2 a (hp.mem_iff.1 (p1.mem_iff.1 ha)) b (p2.mem_iff.1 hb) h2 h1
end Go.Proofs.YtmpeiadlohbikaaGreatDoor.V
end
