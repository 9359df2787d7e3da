/- Generic functions over slices: strings. -/
import Derived.Test.YtiliglahlfkikaaGreatDoorYt16
import Derived.Shelf.Small.Bits
import Derived.Shelf.Utf8.RuneCount
import Derived.Shelf.Strconv.Itoa0
import Derived.Shelf.Strings.Search1
import Derived.Shelf.Strings.Search2
import Derived.Shelf.Strings.Search3
import Derived.Shelf.Strings.Count
import Derived.Shelf.LaysM
import Derived.Shelf.Strings.Shaped
import Derived.Shelf.Sort.Plain
import Derived.Shelf.GgClosure.StringsIndexFunc
import Derived.Ground.GgwProg
import Derived.Shelf.GgClosure.StringsIndexFuncTop
import Derived.Shelf.Strings.Split
import Derived.Shelf.Strings.SplitShaped
import Derived.Shelf.Unicode.Decode
import Derived.Shelf.Strings.RuneCount
import Derived.Shelf.Strings.Explode
import Derived.Shelf.Unicode.DecodeSlow
import Derived.Shelf.Unicode.DecodeAny
import Derived.Shelf.Strings.FuncGrows
import Derived.Shelf.Slices.In.SortNone
import Derived.Shelf.SlSortCmp.NoneTotal
import Derived.Shelf.SlGeneric
import Derived.Ground.SlsfProg
import Derived.Ground.SlmcProg
import Derived.Shelf.SlMaps.Clone
import Derived.Test.YtiliglahlfkikaaGreatDoorProg
import Derived.Test.YtiliglahlfkikaaGreatDoorYt3
import Derived.Laws.RangeString
import Derived.Lib.OthersKept
import Derived.Lib.TrimU
import Derived.Maps.RangeRun
import Derived.Test.YtiliglahlfkikaaGreatDoorYt14
section
set_option linter.unusedVariables false
set_option linter.unusedSimpArgs false
namespace Go.Proofs.YtiliglahlfkikaaGreatDoor.V
open Go.RowKit Go.Shelf Go.Lib Go.Sort
section
variable {U:bQ} {P:Program} {ρs:Ren} {tE:Nat} {s:bg} {ei:TI U}
theorem ny{α β:Type}(p:α→Prop)(φ:α→List β): ∀(l:List α) (h: ∀x∈l,p x),(l.attachWith p h).flatMap (fun a=>φ a.1)=l.flatMap φ:=fun l h=>by
 conv=>rhs;rw[←List.attachWith_map_subtype_val (p:=p) (l:=l) h]
 rw[List.flatMap_map]
theorem nz{α β:Type}(p:α→Prop)(φ:α→β)(l:List α)(h: ∀x∈l,p x):(l.attachWith p h).map (fun a=>φ a.1)=l.map φ:=by
 conv=>rhs;rw[←List.attachWith_map_subtype_val (p:=p) (l:=l) h]
 rw[List.map_map];rfl
theorem xa{α β:Type}(φ:α→β)(g:β→β→Int)(l:List α):(aV (fun a b=>g (φ a) (φ b)) l).map φ=aV g (l.map φ):=by
 unfold aV;exact List.map_mergeSort (r:=fun x y=>!ltOf (fun a b=>g (φ a) (φ b)) y x) (s:=fun x y=>!(ltOf g) y x) (f:=φ) (fun a _ b _=>rfl)
def iE{α:Type}(l:List α)(g:α→α→Int):Prop:=SWO (ltOf g)∧ ∀x∈l,∀y∈l,ltOf g x y=false→ltOf g y x=false→x=y
def y5(U:bQ)(s:bg)(tE:Nat):bh U:=⟨[.n,.f2 s s],fun xs es K=> ∃(l:List (TT U.ty s)) (g:TT U.ty s→TT U.ty s→Int),xs= [⟨false,[(1,.own 0 0)]⟩,⟨false,[(1,.f2 s s g)]⟩]∧es= [.row 0 s l tE]∧iE l g∧l.length<4611686018427387904∧K (.tup []) [.row 0 s (aV g l) tE]⟩
theorem y6 [ao]{X:List Nat}{w w1:World}{ρ:Nat→Rz}{H:Hs U}{g:TT U.ty s→TT U.ty s→Int}{f:FuncId}{ca:List Value}(hpr:ao.pr=P)(hag:eE s=true)(hv:xL U (ak ρ H++X) (· =w) (.func (.func f) #[] ca.toArray) s s g)(x y:Em U (ak ρ H++X) w s){O:List Nat}(hf:Fr O w w1)(hO: ∀y∈O,y∈ak ρ H)(xd: ∀g∈ak ρ H,g∉ao.xf)(hY: ∀z∈gB,z∈ak ρ H++X):
  Fn P f ([.agg x.c.toArray,.agg y.c.toArray]++ca) w1 fun v w2=>v= .int .i64 (g x.x y.x)∧Fr [] w1 w2:=by
 have mv:Mv (ak ρ H++X) (· =w) (ak ρ H++X) (· =w1):=fun w2 h2=>⟨w,O,rfl,by subst h2;exact hf,fun y hy=>⟨List.mem_append_left _ (hO y hy),xd y (hO y hy)⟩,fun y hy=> .inl hy⟩;have h1:=xL.call (v:= .agg x.c.toArray) (v':= .agg y.c.toArray) (hv.mv mv) hY (t:=x.x) (t':=y.x) (by simpa[Value.cells]using aD.mv mv x.den) (by unfold dS;rw[hag];simp[Value.cells]) (by simpa[Value.cells]using aD.mv mv y.den) (by unfold dS;rw[hag];simp[Value.cells]);rw[hpr]at h1;obtain⟨f',fi,ca',e,h2⟩:=h1;injection e with e1 e2 e3;injection e1 with e1;subst e1;have e2:fi= []:=by
  have:=congrArg Array.toList e2;simpa using this.symm
 have e3:ca=ca':=by
  have:=congrArg Array.toList e3;simpa using this
 subst e2;subst e3;exact Fn.mono h2 fun v w' ⟨a,_,b⟩=>⟨a,b⟩
theorem y7(L:SlLaysF0.n6 P ρs)(hen:aS P (ρs.f 6)=true)(hag:eE s=true)(ag:aW P (ρs.t 24)=some (aL U s))(sz:(P.info? (ρs.t 24)).map (·.size)=some (aL U s))(hti:aZ U P tE ei)(hz: ∃z,da 20 s ei.zero fun x=>x=z)(hm0:0<aL U s)
  (hfl: ∀(Y:List Nat) (w:World) (x:TT U.ty s) (c c':List Value),aD U Y (· =w) s x c→aD U Y (· =w) s x c'→c=c'):cc P U (ρs.f 6) (y5 U s tE):=fun [F:ao] hpr X w ρ es0 xs vs K M hv hrun=>by
 obtain⟨l,g,rfl,rfl,⟨hO,hT⟩,hl62,hK⟩:=hrun;obtain⟨v,us,rfl,h1,v2,us2,rfl,h2,h3⟩:=hv;rw[show us2= []from h3];have hl:aF (aJ 0 [aM.row 0 s l tE]) 0=some (.row 0 s l tE):=rfl;obtain⟨em,sp,hi,e1,e2,rfl,how0,hw⟩:=lQ M hl h1;obtain⟨I,hu⟩:=ie hti hz (ak ρ (aJ 0 [aM.row 0 s l tE])++X) w;obtain⟨u',e,hv2⟩:=(show Vw U X w ρ 1 (aJ 0 [aM.row 0 s l tE]) (.f2 s s g) [v2]from(bR.one1 h2).1);injection e with e;subst e;obtain⟨f,ca,rfl⟩:=hv2.1;have dj: ∀g,ah (ρ 0).A=some g→g∉X:=fun g hg=>M.dj g (gw hl hg);have hkey: ∀cs,∀y∈keys [(ah (ρ 0).A,Cl cs tE)],y∈ak ρ (aJ 0 [aM.row 0 s l tE]):=fun cs y hy=>by
  rw[dN]at hy;exact gw hl (by simpa using hy)
 have hen2:aS P f=true:=(y6 hpr hag hv2 (default:Em U (ak ρ (aJ 0 [aM.row 0 s l tE])++X) w s) default (Fr.refl [] w) (fun y hy=>by cases hy) M.xd M.gY).1;have key: ∀(p:Em U (ak ρ (aJ 0 [aM.row 0 s l tE])++X) w s→Prop) (hp: ∀x∈em,p x) (e0:Em U (ak ρ (aJ 0 [aM.row 0 s l tE])++X) w s) (h0:p e0),(∀x y,p x→p y→ltOf g x.x y.x=false→ltOf g y.x x.x=false→x.x=y.x)→
   Fn P (ρs.f 6) [.slice (ρ 0).A em.length (ρ 0).c,.func (.func f) #[] ca.toArray] w fun v w'=>v= .tuple #[]∧ ∃em':List (Em U (ak ρ (aJ 0 [aM.row 0 s l tE])++X) w s),em'.map (·.x)=aV g l∧Ow (ρ 0).A em.length (ρ 0).c (aL U s) (em'.flatMap (·.c)) sp∧(∀g,ah (ρ 0).A=some g→w'.heap[g]? =some (Cl (em'.flatMap (·.c)++sp) tE))∧Fr (ah (ρ 0).A).toList w w':=by
  intro p hp e0 h0 hT'
  haveI:Inhabited {x:Em U (ak ρ (aJ 0 [aM.row 0 s l tE])++X) w s//p x}:=⟨⟨e0,h0⟩⟩
  have hfm:=ny p (fun e:Em U (ak ρ (aJ 0 [aM.row 0 s l tE])++X) w s=>e.c) em hp;have hlen:(em.attachWith p hp).length=em.length:=List.length_attachWith;have hs:=G0 (enc:=fun a:{x:Em U (ak ρ (aJ 0 [aM.row 0 s l tE])++X) w s//p x}=>a.1.c) (k:=aL U s) (e:=tE) L (C8 ag) (dK sz) (fun x=>x.1.hl) hm0 (fun x=>x.1.h1) (cf:=fun a b=>g a.1.x b.1.x)
   ⟨fun x=>hO.1 x.1.x,fun x y z=>hO.2 x.1.x y.1.x z.1.x,fun x y z=>hO.3 x.1.x y.1.x z.1.x⟩
   (fun x y h1 h2=>by
    have e:=hT' x.1 y.1 x.2 y.2 h1 h2;obtain⟨⟨x,c,d⟩,hx⟩:=x;obtain⟨⟨y,c',d'⟩,hy⟩:=y;simp only at e;subst e;have:=hfl _ _ _ _ _ d d';subst this;rfl) (g:=f) (cb:=ca) (uS hen2) hen X w (em.attachWith p hp) (by rw[hlen];omega) (ρ 0).A (ρ 0).c sp (by rw[hfm];exact oo (M.lo w rfl) hw dj) (by rw[hfm,hlen];exact how0)
   (fun w1 x y hf1=>y6 hpr hag hv2 x.1 y.1 hf1 (hkey _) M.xd M.gY)
  rw[hlen]at hs;refine hs.mono ?_;rintro v w' ⟨rfl,a1,a2,a3,a4⟩;refine⟨rfl,(aV (fun a b:{x:Em U (ak ρ (aJ 0 [aM.row 0 s l tE])++X) w s//p x}=>g a.1.x b.1.x) (em.attachWith p hp)).map (·.1),?_,?_,fun g' hg'=>?_,?_⟩
  ·rw[List.map_map];have:=xa (fun a:{x:Em U (ak ρ (aJ 0 [aM.row 0 s l tE])++X) w s//p x}=>a.1.x) g (em.attachWith p hp);rw[show((fun x:Em U (ak ρ (aJ 0 [aM.row 0 s l tE])++X) w s=>x.x)∘fun x:{x:Em U (ak ρ (aJ 0 [aM.row 0 s l tE])++X) w s//p x}=>x.1)=fun a=>a.1.x from rfl,this];have h9:=nz p (fun e:Em U (ak ρ (aJ 0 [aM.row 0 s l tE])++X) w s=>e.x) em hp;rw[h9,e1]
  ·rw[List.flatMap_map];exact a1
  ·rw[List.flatMap_map];exact a3.hp.at (i:=0) (by rw[hg'];rfl)
  ·rw[dN]at a4;exact a4
 have main:Fn P (ρs.f 6) [.slice (ρ 0).A em.length (ρ 0).c,.func (.func f) #[] ca.toArray] w fun v w'=>v= .tuple #[]∧ ∃em':List (Em U (ak ρ (aJ 0 [aM.row 0 s l tE])++X) w s),em'.map (·.x)=aV g l∧Ow (ρ 0).A em.length (ρ 0).c (aL U s) (em'.flatMap (·.c)) sp∧(∀g,ah (ρ 0).A=some g→w'.heap[g]? =some (Cl (em'.flatMap (·.c)++sp) tE))∧Fr (ah (ρ 0).A).toList w w':=by
  cases hem:em with
  |nil=>
   rw[←hem];exact key (fun x=>x=default) (fun x hx=>by rw[hem]at hx;cases hx) default rfl (fun x y hx hy _ _=>by rw[hx,hy])
  |cons e0 r=>
   rw[←hem];exact key (fun x=>x∈em) (fun x hx=>hx) e0 (by rw[hem];simp) (fun x y hx hy=>hT _ (by rw[←e1];exact List.mem_map_of_mem hx) _ (by rw[←e1];exact List.mem_map_of_mem hy))
 refine main.mono ?_;rintro v w' ⟨rfl,em',b1,b2,b3,b4⟩;have hlen:em.length=(aV g l).length:=by rw[c7,e2]
 rw[hlen]at b2;obtain⟨ρ',a2,a3⟩:=IE (el:=tE) M hl hm0 b4 (c7 ..) (by have:=kK em';rw[b1]at this;exact this) b2 b3;exact⟨_,_,ρ',hK,⟨[],rfl,rfl⟩,a2,a3⟩
end
end Go.Proofs.YtiliglahlfkikaaGreatDoor.V
end

section
namespace Go.Proofs
open Go.Shelf
def Tryz.laysM219_ren:Go.Shelf.Ren:=⟨fun|219=>219|217=>241|225=>242|224=>243|267=>244|266=>252|314=>253|n=>n,fun|9=>9|3=>3|4=>4|5=>5|46=>253|146=>320|51=>30|n=>n,fun|1=>0|n=>n⟩
theorem Tryz.laysM219:Go.Proofs.LaysM.n219 Tryz.prog Tryz.laysM219_ren:={
 mixed:=by kernel_rfl
 f217:=Tryz.func241.trans (congrArg some (by kernel_rfl))
 f219:=Tryz.func219.trans (congrArg some (by kernel_rfl))
 f224:=Tryz.func243.trans (congrArg some (by kernel_rfl))
 f225:=Tryz.func242.trans (congrArg some (by kernel_rfl))
 f266:=Tryz.func252.trans (congrArg some (by kernel_rfl))
 f267:=Tryz.func244.trans (congrArg some (by kernel_rfl))
 f314:=Tryz.func253.trans (congrArg some (by kernel_rfl))
 t3:=Tryz.underlying3
 a3:=Tryz.isAgg3
 z3:=Tryz.sizeOf3
 v3:=Tryz.zeroValue3
 t4:=Tryz.underlying4
 a4:=Tryz.isAgg4
 z4:=Tryz.sizeOf4
 v4:=Tryz.zeroValue4
 t5:=Tryz.underlying5
 a5:=Tryz.isAgg5
 z5:=Tryz.sizeOf5
 v5:=Tryz.zeroValue5
 t9:=Tryz.underlying9
 a9:=Tryz.isAgg9
 z9:=Tryz.sizeOf9
 v9:=Tryz.zeroValue9
 t46:=Tryz.underlying253
 a46:=Tryz.isAgg253
 z46:=Tryz.sizeOf253
 v46:=Tryz.zeroValue253
 t51:=Tryz.underlying30
 a51:=Tryz.isAgg30
 z51:=Tryz.sizeOf30
 v51:=Tryz.zeroValue30
 t146:=Tryz.underlying320
 a146:=Tryz.isAgg320
 z146:=Tryz.sizeOf320
 v146:=Tryz.zeroValue320
 g1:=by kernel_rfl
 i3:=by kernel_rfl
 i4:=by kernel_rfl
 i5:=by kernel_rfl
 i9:=by kernel_rfl
 i46:=by kernel_rfl
 i51:=by kernel_rfl
 i146:=by kernel_rfl
 m1:=by kernel_rfl
 s1_3:=fun w h=>Go.Proofs.cell_of_shapedOpen_int (zero:= #[.int .i64 0]) (t:=3) h (of_decide_eq_true (by kernel_rfl)) (by kernel_rfl) rfl (by kernel_rfl) (by kernel_rfl) Tryz.underlying3}
def Tryz.lays190_ren:Go.Shelf.Ren:=⟨fun|190=>113|125=>173|258=>172|128=>206|129=>207|302=>197|303=>198|304=>199|305=>200|306=>201|307=>202|308=>203|309=>204|310=>205|333=>232|329=>233|330=>234|334=>235|335=>236|336=>177|344=>250|n=>n,fun|31=>137|9=>9|3=>3|46=>253|0=>0|51=>30|53=>282|4=>4|183=>274|182=>273|131=>221|5=>5|218=>300|222=>304|228=>312|229=>313|n=>n,fun|n=>n⟩
theorem Tryz.lays190:Go.Proofs.Lays.n190 Tryz.prog Tryz.lays190_ren:={
 mixed:=by kernel_rfl
 f125:=Tryz.func173.trans (congrArg some (by kernel_rfl))
 f128:=Tryz.func206.trans (congrArg some (by kernel_rfl))
 f129:=Tryz.func207.trans (congrArg some (by kernel_rfl))
 f190:=Tryz.func113.trans (congrArg some (by kernel_rfl))
 f258:=Tryz.func172.trans (congrArg some (by kernel_rfl))
 f302:=Tryz.func197.trans (congrArg some (by kernel_rfl))
 f303:=Tryz.func198.trans (congrArg some (by kernel_rfl))
 f304:=Tryz.func199.trans (congrArg some (by kernel_rfl))
 f305:=Tryz.func200.trans (congrArg some (by kernel_rfl))
 f306:=Tryz.func201.trans (congrArg some (by kernel_rfl))
 f307:=Tryz.func202.trans (congrArg some (by kernel_rfl))
 f308:=Tryz.func203.trans (congrArg some (by kernel_rfl))
 f309:=Tryz.func204.trans (congrArg some (by kernel_rfl))
 f310:=Tryz.func205.trans (congrArg some (by kernel_rfl))
 f329:=Tryz.func233.trans (congrArg some (by kernel_rfl))
 f330:=Tryz.func234.trans (congrArg some (by kernel_rfl))
 f333:=Tryz.func232.trans (congrArg some (by kernel_rfl))
 f334:=Tryz.func235.trans (congrArg some (by kernel_rfl))
 f335:=Tryz.func236.trans (congrArg some (by kernel_rfl))
 f336:=Tryz.func177.trans (congrArg some (by kernel_rfl))
 f344:=Tryz.func250.trans (congrArg some (by kernel_rfl))
 t0:=Tryz.underlying0
 a0:=Tryz.isAgg0
 z0:=Tryz.sizeOf0
 v0:=Tryz.zeroValue0
 t3:=Tryz.underlying3
 a3:=Tryz.isAgg3
 z3:=Tryz.sizeOf3
 v3:=Tryz.zeroValue3
 t4:=Tryz.underlying4
 a4:=Tryz.isAgg4
 z4:=Tryz.sizeOf4
 v4:=Tryz.zeroValue4
 t5:=Tryz.underlying5
 a5:=Tryz.isAgg5
 z5:=Tryz.sizeOf5
 v5:=Tryz.zeroValue5
 t9:=Tryz.underlying9
 a9:=Tryz.isAgg9
 z9:=Tryz.sizeOf9
 v9:=Tryz.zeroValue9
 t31:=Tryz.underlying137
 a31:=Tryz.isAgg137
 z31:=Tryz.sizeOf137
 v31:=Tryz.zeroValue137
 t46:=Tryz.underlying253
 a46:=Tryz.isAgg253
 z46:=Tryz.sizeOf253
 v46:=Tryz.zeroValue253
 t51:=Tryz.underlying30
 a51:=Tryz.isAgg30
 z51:=Tryz.sizeOf30
 v51:=Tryz.zeroValue30
 t53:=Tryz.underlying282
 a53:=Tryz.isAgg282
 z53:=Tryz.sizeOf282
 v53:=Tryz.zeroValue282
 t131:=Tryz.underlying221
 a131:=Tryz.isAgg221
 z131:=Tryz.sizeOf221
 v131:=Tryz.zeroValue221
 t182:=Tryz.underlying273
 a182:=Tryz.isAgg273
 z182:=Tryz.sizeOf273
 v182:=Tryz.zeroValue273
 t183:=Tryz.underlying274
 a183:=Tryz.isAgg274
 z183:=Tryz.sizeOf274
 v183:=Tryz.zeroValue274
 t218:=Tryz.underlying300
 a218:=Tryz.isAgg300
 z218:=Tryz.sizeOf300
 v218:=Tryz.zeroValue300
 t222:=Tryz.underlying304
 a222:=Tryz.isAgg304
 z222:=Tryz.sizeOf304
 v222:=Tryz.zeroValue304
 t228:=Tryz.underlying312
 a228:=Tryz.isAgg312
 z228:=Tryz.sizeOf312
 v228:=Tryz.zeroValue312
 t229:=Tryz.underlying313
 a229:=Tryz.isAgg313
 z229:=Tryz.sizeOf313
 v229:=Tryz.zeroValue313}
open Go.Sort Go.RowKit in
theorem Tryz.slices_Sort_string(blk off cap:Nat)(ss:List (List UInt8))(w:World)(hH:Holds encStr w blk off ss.toArray)(hblk:blk<w.heap.size)(hsz:ss.length<4611686018427387904):
  Calls Tryz.prog 113 #[.slice (some ⟨blk,off,none⟩) ss.length cap] w fun e w'=>
   e= .returned (.tuple #[])∧ ∃n os,w'=grow (putRow encStr (Sort.ahead w n) blk off (ss.mergeSort fun x y=>decide (x≤y)).toArray) os:=Any.slices_Sort_string Tryz.lays190 blk off cap ss w hH hblk hsz
def Tryz.lays146_ren:Go.Shelf.Ren:=⟨fun|146=>67|221=>120|268=>178|138=>179|143=>180|195=>216|197=>217|218=>218|219=>219|260=>240|217=>241|225=>242|224=>243|267=>244|266=>252|314=>253|n=>n,fun|9=>9|31=>137|3=>3|4=>4|0=>0|105=>289|21=>21|5=>5|46=>253|119=>316|139=>319|138=>318|146=>320|51=>30|n=>n,fun|1=>0|3=>1|4=>2|n=>n⟩
theorem Tryz.lays146:Go.Proofs.Lays.n146 Tryz.prog Tryz.lays146_ren:={
 mixed:=by kernel_rfl
 f138:=Tryz.func179.trans (congrArg some (by kernel_rfl))
 f143:=Tryz.func180.trans (congrArg some (by kernel_rfl))
 f146:=Tryz.func67.trans (congrArg some (by kernel_rfl))
 f195:=Tryz.func216.trans (congrArg some (by kernel_rfl))
 f197:=Tryz.func217.trans (congrArg some (by kernel_rfl))
 f217:=Tryz.func241.trans (congrArg some (by kernel_rfl))
 f218:=Tryz.func218.trans (congrArg some (by kernel_rfl))
 f219:=Tryz.func219.trans (congrArg some (by kernel_rfl))
 f221:=Tryz.func120.trans (congrArg some (by kernel_rfl))
 f224:=Tryz.func243.trans (congrArg some (by kernel_rfl))
 f225:=Tryz.func242.trans (congrArg some (by kernel_rfl))
 f260:=Tryz.func240.trans (congrArg some (by kernel_rfl))
 f266:=Tryz.func252.trans (congrArg some (by kernel_rfl))
 f267:=Tryz.func244.trans (congrArg some (by kernel_rfl))
 f268:=Tryz.func178.trans (congrArg some (by kernel_rfl))
 f314:=Tryz.func253.trans (congrArg some (by kernel_rfl))
 t0:=Tryz.underlying0
 a0:=Tryz.isAgg0
 z0:=Tryz.sizeOf0
 v0:=Tryz.zeroValue0
 t3:=Tryz.underlying3
 a3:=Tryz.isAgg3
 z3:=Tryz.sizeOf3
 v3:=Tryz.zeroValue3
 t4:=Tryz.underlying4
 a4:=Tryz.isAgg4
 z4:=Tryz.sizeOf4
 v4:=Tryz.zeroValue4
 t5:=Tryz.underlying5
 a5:=Tryz.isAgg5
 z5:=Tryz.sizeOf5
 v5:=Tryz.zeroValue5
 t9:=Tryz.underlying9
 a9:=Tryz.isAgg9
 z9:=Tryz.sizeOf9
 v9:=Tryz.zeroValue9
 t21:=Tryz.underlying21
 a21:=Tryz.isAgg21
 z21:=Tryz.sizeOf21
 v21:=Tryz.zeroValue21
 t31:=Tryz.underlying137
 a31:=Tryz.isAgg137
 z31:=Tryz.sizeOf137
 v31:=Tryz.zeroValue137
 t46:=Tryz.underlying253
 a46:=Tryz.isAgg253
 z46:=Tryz.sizeOf253
 v46:=Tryz.zeroValue253
 t51:=Tryz.underlying30
 a51:=Tryz.isAgg30
 z51:=Tryz.sizeOf30
 v51:=Tryz.zeroValue30
 t105:=Tryz.underlying289
 a105:=Tryz.isAgg289
 z105:=Tryz.sizeOf289
 v105:=Tryz.zeroValue289
 t119:=Tryz.underlying316
 a119:=Tryz.isAgg316
 z119:=Tryz.sizeOf316
 t138:=Tryz.underlying318
 a138:=Tryz.isAgg318
 z138:=Tryz.sizeOf318
 v138:=Tryz.zeroValue318
 t139:=Tryz.underlying319
 a139:=Tryz.isAgg319
 z139:=Tryz.sizeOf319
 v139:=Tryz.zeroValue319
 t146:=Tryz.underlying320
 a146:=Tryz.isAgg320
 z146:=Tryz.sizeOf320
 v146:=Tryz.zeroValue320
 g1:=by kernel_rfl
 g3:=by kernel_rfl
 g4:=by kernel_rfl}
open Go.RowKit Go.Lib in
theorem Tryz.strings_Split(s sep:ByteArray)(m:Int)(w:World)(hs:s.size<4294967281)(hm:w.cell? ⟨0,0,none⟩=some (.int .i64 m))(h1:1≤sep.size):
  Calls Tryz.prog 67 #[.string s,.string sep] w fun e w'=>
   e= .returned (.slice (some ⟨w.heap.size,0,none⟩) (Lib.countB s sep+1) (Lib.countB s sep+1))∧w'=w.alloc (.cells ((Lib.splitB sep 0 (Lib.countB s sep) s).map Value.string).toArray 9):=Any.strings_Split Tryz.lays146 (by kernel_rfl) s sep m w hs hm h1
open Go.RowKit Go.Sort in
theorem Tryz.slices_Sort_string_none(p:Option Addr)(cap:Nat)(w:World):
  Calls Tryz.prog 113 #[.slice p 0 cap] w fun e w'=>e= .returned (.tuple #[])∧w'=w:=Any.slices_Sort_string_none Tryz.lays190 p cap w
def Tryz.laysSortTag_ren:Go.Shelf.Ren:=⟨fun|6=>138|15=>173|14=>189|28=>206|29=>207|20=>223|21=>224|22=>225|23=>226|24=>227|25=>228|26=>229|27=>230|46=>246|47=>233|48=>234|49=>247|50=>248|57=>254|n=>n,fun|22=>37|24=>34|25=>114|3=>3|39=>253|0=>0|53=>30|55=>282|4=>4|46=>274|45=>273|50=>221|5=>5|9=>9|66=>300|70=>304|76=>312|77=>313|n=>n,fun|n=>n⟩
theorem Tryz.laysSortTag:Go.Proofs.SlLaysF0.n6 Tryz.prog Tryz.laysSortTag_ren:={
 mixed:=by kernel_rfl
 f6:=⟨Tryz.f138.name,by decide,Tryz.func138.trans (congrArg some (by kernel_rfl))⟩
 f14:=⟨Tryz.f189.name,by decide,Tryz.func189.trans (congrArg some (by kernel_rfl))⟩
 f15:=Tryz.func173.trans (congrArg some (by kernel_rfl))
 f20:=⟨Tryz.f223.name,by decide,Tryz.func223.trans (congrArg some (by kernel_rfl))⟩
 f21:=⟨Tryz.f224.name,by decide,Tryz.func224.trans (congrArg some (by kernel_rfl))⟩
 f22:=⟨Tryz.f225.name,by decide,Tryz.func225.trans (congrArg some (by kernel_rfl))⟩
 f23:=⟨Tryz.f226.name,by decide,Tryz.func226.trans (congrArg some (by kernel_rfl))⟩
 f24:=⟨Tryz.f227.name,by decide,Tryz.func227.trans (congrArg some (by kernel_rfl))⟩
 f25:=⟨Tryz.f228.name,by decide,Tryz.func228.trans (congrArg some (by kernel_rfl))⟩
 f26:=⟨Tryz.f229.name,by decide,Tryz.func229.trans (congrArg some (by kernel_rfl))⟩
 f27:=⟨Tryz.f230.name,by decide,Tryz.func230.trans (congrArg some (by kernel_rfl))⟩
 f28:=Tryz.func206.trans (congrArg some (by kernel_rfl))
 f29:=Tryz.func207.trans (congrArg some (by kernel_rfl))
 f46:=⟨Tryz.f246.name,by decide,Tryz.func246.trans (congrArg some (by kernel_rfl))⟩
 f47:=Tryz.func233.trans (congrArg some (by kernel_rfl))
 f48:=Tryz.func234.trans (congrArg some (by kernel_rfl))
 f49:=⟨Tryz.f247.name,by decide,Tryz.func247.trans (congrArg some (by kernel_rfl))⟩
 f50:=⟨Tryz.f248.name,by decide,Tryz.func248.trans (congrArg some (by kernel_rfl))⟩
 f57:=⟨Tryz.f254.name,by decide,Tryz.func254.trans (congrArg some (by kernel_rfl))⟩
 t0:=Tryz.underlying0
 a0:=Tryz.isAgg0
 z0:=Tryz.sizeOf0
 v0:=Tryz.zeroValue0
 t3:=Tryz.underlying3
 a3:=Tryz.isAgg3
 z3:=Tryz.sizeOf3
 v3:=Tryz.zeroValue3
 t4:=Tryz.underlying4
 a4:=Tryz.isAgg4
 z4:=Tryz.sizeOf4
 v4:=Tryz.zeroValue4
 t5:=Tryz.underlying5
 a5:=Tryz.isAgg5
 z5:=Tryz.sizeOf5
 v5:=Tryz.zeroValue5
 t9:=Tryz.underlying9
 a9:=Tryz.isAgg9
 z9:=Tryz.sizeOf9
 v9:=Tryz.zeroValue9
 t22:=Tryz.underlying37
 a22:=Tryz.isAgg37
 z22:=Tryz.sizeOf37
 v22:=Tryz.zeroValue37
 t25:=Tryz.underlying114
 a25:=Tryz.isAgg114
 z25:=Tryz.sizeOf114
 v25:=Tryz.zeroValue114
 t39:=Tryz.underlying253
 a39:=Tryz.isAgg253
 z39:=Tryz.sizeOf253
 v39:=Tryz.zeroValue253
 t45:=Tryz.underlying273
 a45:=Tryz.isAgg273
 z45:=Tryz.sizeOf273
 v45:=Tryz.zeroValue273
 t46:=Tryz.underlying274
 a46:=Tryz.isAgg274
 z46:=Tryz.sizeOf274
 v46:=Tryz.zeroValue274
 t50:=Tryz.underlying221
 a50:=Tryz.isAgg221
 z50:=Tryz.sizeOf221
 v50:=Tryz.zeroValue221
 t53:=Tryz.underlying30
 a53:=Tryz.isAgg30
 z53:=Tryz.sizeOf30
 v53:=Tryz.zeroValue30
 t55:=Tryz.underlying282
 a55:=Tryz.isAgg282
 z55:=Tryz.sizeOf282
 v55:=Tryz.zeroValue282
 t66:=Tryz.underlying300
 a66:=Tryz.isAgg300
 z66:=Tryz.sizeOf300
 v66:=Tryz.zeroValue300
 t70:=Tryz.underlying304
 a70:=Tryz.isAgg304
 z70:=Tryz.sizeOf304
 v70:=Tryz.zeroValue304
 t76:=Tryz.underlying312
 a76:=Tryz.isAgg312
 z76:=Tryz.sizeOf312
 v76:=Tryz.zeroValue312
 t77:=Tryz.underlying313
 a77:=Tryz.isAgg313
 z77:=Tryz.sizeOf313
 v77:=Tryz.zeroValue313}
def Tryz.laysSortItem_ren:Go.Shelf.Ren:=⟨fun|6=>117|15=>173|14=>176|28=>206|29=>207|20=>208|21=>209|22=>210|23=>211|24=>212|25=>213|26=>214|27=>215|46=>237|47=>233|48=>234|49=>238|50=>239|57=>251|n=>n,fun|22=>98|24=>134|25=>210|3=>3|39=>253|0=>0|53=>30|55=>282|4=>4|46=>274|45=>273|50=>221|5=>5|9=>9|66=>300|70=>304|76=>312|77=>313|n=>n,fun|n=>n⟩
theorem Tryz.laysSortItem:Go.Proofs.SlLaysF0.n6 Tryz.prog Tryz.laysSortItem_ren:={
 mixed:=by kernel_rfl
 f6:=⟨Tryz.f117.name,by decide,Tryz.func117.trans (congrArg some (by kernel_rfl))⟩
 f14:=⟨Tryz.f176.name,by decide,Tryz.func176.trans (congrArg some (by kernel_rfl))⟩
 f15:=Tryz.func173.trans (congrArg some (by kernel_rfl))
 f20:=⟨Tryz.f208.name,by decide,Tryz.func208.trans (congrArg some (by kernel_rfl))⟩
 f21:=⟨Tryz.f209.name,by decide,Tryz.func209.trans (congrArg some (by kernel_rfl))⟩
 f22:=⟨Tryz.f210.name,by decide,Tryz.func210.trans (congrArg some (by kernel_rfl))⟩
 f23:=⟨Tryz.f211.name,by decide,Tryz.func211.trans (congrArg some (by kernel_rfl))⟩
 f24:=⟨Tryz.f212.name,by decide,Tryz.func212.trans (congrArg some (by kernel_rfl))⟩
 f25:=⟨Tryz.f213.name,by decide,Tryz.func213.trans (congrArg some (by kernel_rfl))⟩
 f26:=⟨Tryz.f214.name,by decide,Tryz.func214.trans (congrArg some (by kernel_rfl))⟩
 f27:=⟨Tryz.f215.name,by decide,Tryz.func215.trans (congrArg some (by kernel_rfl))⟩
 f28:=Tryz.func206.trans (congrArg some (by kernel_rfl))
 f29:=Tryz.func207.trans (congrArg some (by kernel_rfl))
 f46:=⟨Tryz.f237.name,by decide,Tryz.func237.trans (congrArg some (by kernel_rfl))⟩
 f47:=Tryz.func233.trans (congrArg some (by kernel_rfl))
 f48:=Tryz.func234.trans (congrArg some (by kernel_rfl))
 f49:=⟨Tryz.f238.name,by decide,Tryz.func238.trans (congrArg some (by kernel_rfl))⟩
 f50:=⟨Tryz.f239.name,by decide,Tryz.func239.trans (congrArg some (by kernel_rfl))⟩
 f57:=⟨Tryz.f251.name,by decide,Tryz.func251.trans (congrArg some (by kernel_rfl))⟩
 t0:=Tryz.underlying0
 a0:=Tryz.isAgg0
 z0:=Tryz.sizeOf0
 v0:=Tryz.zeroValue0
 t3:=Tryz.underlying3
 a3:=Tryz.isAgg3
 z3:=Tryz.sizeOf3
 v3:=Tryz.zeroValue3
 t4:=Tryz.underlying4
 a4:=Tryz.isAgg4
 z4:=Tryz.sizeOf4
 v4:=Tryz.zeroValue4
 t5:=Tryz.underlying5
 a5:=Tryz.isAgg5
 z5:=Tryz.sizeOf5
 v5:=Tryz.zeroValue5
 t9:=Tryz.underlying9
 a9:=Tryz.isAgg9
 z9:=Tryz.sizeOf9
 v9:=Tryz.zeroValue9
 t22:=Tryz.underlying98
 a22:=Tryz.isAgg98
 z22:=Tryz.sizeOf98
 v22:=Tryz.zeroValue98
 t25:=Tryz.underlying210
 a25:=Tryz.isAgg210
 z25:=Tryz.sizeOf210
 v25:=Tryz.zeroValue210
 t39:=Tryz.underlying253
 a39:=Tryz.isAgg253
 z39:=Tryz.sizeOf253
 v39:=Tryz.zeroValue253
 t45:=Tryz.underlying273
 a45:=Tryz.isAgg273
 z45:=Tryz.sizeOf273
 v45:=Tryz.zeroValue273
 t46:=Tryz.underlying274
 a46:=Tryz.isAgg274
 z46:=Tryz.sizeOf274
 v46:=Tryz.zeroValue274
 t50:=Tryz.underlying221
 a50:=Tryz.isAgg221
 z50:=Tryz.sizeOf221
 v50:=Tryz.zeroValue221
 t53:=Tryz.underlying30
 a53:=Tryz.isAgg30
 z53:=Tryz.sizeOf30
 v53:=Tryz.zeroValue30
 t55:=Tryz.underlying282
 a55:=Tryz.isAgg282
 z55:=Tryz.sizeOf282
 v55:=Tryz.zeroValue282
 t66:=Tryz.underlying300
 a66:=Tryz.isAgg300
 z66:=Tryz.sizeOf300
 v66:=Tryz.zeroValue300
 t70:=Tryz.underlying304
 a70:=Tryz.isAgg304
 z70:=Tryz.sizeOf304
 v70:=Tryz.zeroValue304
 t76:=Tryz.underlying312
 a76:=Tryz.isAgg312
 z76:=Tryz.sizeOf312
 v76:=Tryz.zeroValue312
 t77:=Tryz.underlying313
 a77:=Tryz.isAgg313
 z77:=Tryz.sizeOf313
 v77:=Tryz.zeroValue313}
def Tryz.laysCloneE_ren:Go.Shelf.Ren:=⟨fun|5=>58|7=>110|n=>n,fun|23=>106|25=>34|3=>47|4=>4|20=>20|n=>n,fun|n=>n⟩
theorem Tryz.laysCloneE:Go.Proofs.SlLaysW.n5 Tryz.prog Tryz.laysCloneE_ren:={
 mixed:=by kernel_rfl
 f5:=⟨Tryz.f58.name,by decide,Tryz.func58.trans (congrArg some (by kernel_rfl))⟩
 f7:=Tryz.func110.trans (congrArg some (by kernel_rfl))
 t4:=Tryz.underlying4
 a4:=Tryz.isAgg4
 z4:=Tryz.sizeOf4
 v4:=Tryz.zeroValue4
 t20:=Tryz.underlying20
 a20:=Tryz.isAgg20
 z20:=Tryz.sizeOf20
 v20:=Tryz.zeroValue20
 t23:=Tryz.underlying106
 a23:=Tryz.isAgg106
 z23:=Tryz.sizeOf106
 v23:=Tryz.zeroValue106}
def Tryz.laysCloneB_ren:Go.Shelf.Ren:=⟨fun|5=>59|7=>110|n=>n,fun|23=>107|25=>34|3=>4|4=>4|20=>20|n=>n,fun|n=>n⟩
theorem Tryz.laysCloneB:Go.Proofs.SlLaysW.n5 Tryz.prog Tryz.laysCloneB_ren:={
 mixed:=by kernel_rfl
 f5:=⟨Tryz.f59.name,by decide,Tryz.func59.trans (congrArg some (by kernel_rfl))⟩
 f7:=Tryz.func110.trans (congrArg some (by kernel_rfl))
 t4:=Tryz.underlying4
 a4:=Tryz.isAgg4
 z4:=Tryz.sizeOf4
 v4:=Tryz.zeroValue4
 t20:=Tryz.underlying20
 a20:=Tryz.isAgg20
 z20:=Tryz.sizeOf20
 v20:=Tryz.zeroValue20
 t23:=Tryz.underlying107
 a23:=Tryz.isAgg107
 z23:=Tryz.sizeOf107
 v23:=Tryz.zeroValue107}
end Go.Proofs
end

section
set_option linter.unusedVariables false
set_option linter.unusedSimpArgs false
namespace Go.Proofs.YtiliglahlfkikaaGreatDoor
open Go.RowKit
open Go.ChangeMaps (setBlock)
theorem Fr.setBlockR(w:World)(g:Nat)(o:Obj):Fr [g] w (setBlock w g o):=⟨rfl,rfl,rfl,by simp[Go.ChangeMaps.setBlock],fun k _ hk=>by
 show(w.heap.setIfInBounds g o)[k]? =_
 rw[Array.getElem?_setIfInBounds_ne (fun e=>hk (by simp[e]))],Nat.le_refl _⟩
theorem rr{w:World}{g:Nat}{o:Obj}(h:g<w.heap.size):(setBlock w g o).heap[g]? =some o:=by
 show(w.heap.setIfInBounds g o)[g]? =_
 rw[Array.getElem?_setIfInBounds_self_of_lt h]
def xw(s:List UInt8)(pos:Int):Int:=((Utf8.decode ⟨s.toArray⟩ pos.toNat).1:Int)
def ru(s:List UInt8)(pos:Int):Int:=((Utf8.decode ⟨s.toArray⟩ pos.toNat).2:Int)
theorem oT(s:List UInt8)(pos:Int):1≤ru s pos:=by
 have:=Lib.width_pos ⟨s.toArray⟩ pos.toNat;unfold ru;omega
section
variable [ci] {P:Program} {n:Nat} {env:aI} {w:World} {o:Oper} {K:aI→World→Prop} {H:bV} {s:List UInt8}
theorem zQ{t d:Nat}{x:Operand}(ho:o.op= .range t x)(hd:o.dst=some d)(hn:Nat.blt d n=true)(hx:env.ev x=some (sv s))(ht:P.underlying t=some .string)(h:Hp w H)
  (hK: ∀r w',Hp w' (H++ [(some r,.stringIter ⟨s.toArray⟩ 0)])→Fr [] w w'→w.heap.size≤r→K ((d,.pointer (some ⟨r,0,none⟩))::env) w'):bL P n env w o K:=by
 refine fq hd hn (fun a r=>?_) (hK w.heap.size (w.alloc (.stringIter ⟨s.toArray⟩ 0)) (h.alloc _) (Fr.alloc w _) (Nat.le_refl _));unfold execOp;have:=run_range_string (P:=P) w t ⟨s.toArray⟩ ht;simp only[ho,r.eval hx,sv,Sem.run_bind,this,Result.andThen_ok];rfl
theorem CV{r ir d:Nat}{pos:Int}{x:Operand}(ho:o.op= .next x true)(hd:o.dst=some d)(hn:Nat.blt d n=true)(hx:env.ev x=some (.pointer (some ⟨r,0,none⟩)))(h:Hp w H)(hir:H[ir]? =some (some r,.stringIter ⟨s.toArray⟩ pos.toNat))(hp:0≤pos)
  (h0: ¬pos<s.length→K ((d,.tuple #[.bool false])::env) w)
  (h1: ∀w',pos<s.length→Hp w' (H.set ir (some r,.stringIter ⟨s.toArray⟩ (pos+ru s pos).toNat))→Fr [r] w w'→K ((d,.tuple #[.bool true,.int .i64 pos,.int .i32 (xw s pos)])::env) w'):bL P n env w o K:=by
 have hs:(⟨s.toArray⟩:ByteArray).size=s.length:=by simp[ByteArray.size]
 by_cases hc:pos<s.length
 ·have hr:=Lib.run_next_any_at (P:=P) w r ⟨s.toArray⟩ pos.toNat o.type (h.at hir) (by rw[hs];omega);have hw:=oT s pos;have e1:(pos+ru s pos).toNat=pos.toNat+(Utf8.decode ⟨s.toArray⟩ pos.toNat).2:=by unfold ru;omega
  have e2:((pos.toNat:Nat):Int)=pos:=by omega
  have hf:Fr [r] w (setBlock w r (.stringIter ⟨s.toArray⟩ (pos+ru s pos).toNat)):=Fr.setBlockR w r _;refine fq hd hn (fun a q=>?_) (h1 (setBlock w r (.stringIter ⟨s.toArray⟩ (pos+ru s pos).toNat)) hc (h.setAt hir hf (rr (bn (h.at hir)))) hf);unfold execOp;simp only[ho,q.eval hx,Sem.run_bind,hr,Result.andThen_ok];rw[e1,e2];rfl
 ·have hr:=Lib.run_next_end_at (P:=P) w r ⟨s.toArray⟩ pos.toNat o.type (h.at hir) (by rw[hs];omega);refine fq hd hn (fun a q=>?_) (h0 hc);unfold execOp;simp only[ho,q.eval hx,Sem.run_bind,hr,Result.andThen_ok];rfl
end
end Go.Proofs.YtiliglahlfkikaaGreatDoor
end

section
set_option linter.unusedVariables false
set_option linter.unusedSimpArgs false
set_option maxRecDepth 20000
namespace Go.Proofs.YtiliglahlfkikaaGreatDoor.V
open Go.RowKit
def cn(s:List (List UInt8))(s3:Int)(r0:List (List UInt8)):Nat→Int→Int→(List (List UInt8))→((List (List UInt8)))⊕(Int×Int×(List (List UInt8)))
 |0,s3',s5,r0'=> .inr (s3',s5,r0')
 |fuel+1,s3',s5,r0'=>
  if s5<((s.length - s3.toNat:Nat):Int)then
   if(ix r0' (s3+s5))=(ix r0' (s3+(s5 - 1)))then
    cn s s3 r0 fuel s3' (s5+1) r0'
   else
    cn s s3 r0 fuel (s3'+1) (s5+1) (r0'.set s3'.toNat (ix r0' (s3+s5)))
  else
   .inr (s3',s5,r0')
def co(s:List (List UInt8)):Nat→Int→(List (List UInt8))→((List (List UInt8)))⊕(Int×(List (List UInt8)))
 |0,s3,r0=> .inr (s3,r0)
 |fuel+1,s3,r0=>
  if s3<(s.length:Int)then
   if(ix r0 s3)=(ix r0 (s3 - 1))then
    match cn s s3 r0 (((s.length:Int)-(1:Int)).toNat+1) s3 (1:Int) r0 with
    | .inl r=> .inl r
    | .inr (s3',s5,r0')=>
     .inl ((r0'.take s3'.toNat++List.replicate (r0'.length - s3'.toNat) []).take s3'.toNat)
   else
    co s fuel (s3+1) r0
  else
   .inr (s3,r0)
def cT(s:List (List UInt8)):(List (List UInt8)):=
 if(s.length:Int)<2 then
  s
 else
  match co s (((s.length:Int)-(1:Int)).toNat+1) (1:Int) s with
  | .inl r=>r
  | .inr (s3,r0)=>
   r0
theorem nc(s:List (List UInt8)):cT s=dd s:=by
 unfold cT;split
 ·rename_i h0;match s,h0 with
  | [],_=>rfl
  | [a],_=>rfl
  |a::b::l,h=>simp at h;omega
 ·rename_i h;have hs:1≤s.length:=by omega
  rcases rk s ([]:List UInt8) (cn s) (co s) (fun _ _ _ _ _ _=>rfl) (fun fuel s3 r0=>by
   rw[co];generalize cn s s3 r0 (((s.length:Int)-(1:Int)).toNat+1) s3 (1:Int) r0=X;rcases X with r|⟨a,b,c⟩<;>rfl) hs (((s.length:Int)-(1:Int)).toNat+1) 1 (by omega) (by omega) (by
   match s,hs with
   |a::l,_=>rfl) (by omega)with e|⟨⟨q,e⟩,e2⟩
  ·rw[e]
  ·rw[e];exact e2.symm
theorem uw{P:Program}{fi tE:Nat}{fn:Go.Func}{ρf ρt:Nat→Nat}(hen:aS P fi=true)(hf:P.funcs[fi]? =some fn)(hb:fn.body=some (e9 ρf ρt (dn Tryz.f139)))(hn:fn.ntmps=61)(hr:fn.results= #[.tmp 2])(hmx:P.follows .mixedOrders=true)(i64:P.underlying (ρt 3)=some (.int .i64))(hE:tE=ρt 34)(es:ax P (ρt 37)=some (tE,1))(un:P.underlying (ρt 37)=some (.slice tE))(pl:du P tE=true)(sz:(P.info? tE).map (·.size)=some 1)(zc:zeroCells P tE=some [sv []])
  (X:List Nat) (w:World) (s:List (List UInt8)) (A_s:Option Addr) (c_s:Nat) (s1:List Value) (hs:St X w [(ah A_s,Cl (s.flatMap (fun x=> [sv x])++s1) tE)] []) (z4:Ow A_s s.length c_s 1 (s.flatMap (fun x=> [sv x])) s1):
  Fn P fi [.slice A_s s.length c_s] w fun v w'=> ∃(A':Option Addr) (c':Nat) (sp':List Value),v= .slice A' (cT s).length c'∧Ow A' (cT s).length c' 1 ((cT s).flatMap (fun x=> [sv x])) sp'∧St X w' [(ah A',Cl ((cT s).flatMap (fun x=> [sv x])++sp') tE)] []∧Fr (keys [(ah A_s,Cl (s.flatMap (fun x=> [sv x])++s1) tE)]) w w'∧(∀k∈keys [(ah A',Cl ((cT s).flatMap (fun x=> [sv x])++sp') tE)],k∈(keys [(ah A_s,Cl (s.flatMap (fun x=> [sv x])++s1) tE)])∨w.heap.size≤k):=by
 refine jB 61 hen hf hb hn rfl ?_;dsimp only[cV];subst hE;have hs0:=hs;have st:St X w [(ah A_s,Cl (s.flatMap (fun x=> [sv x])++s1) (ρt 34))] []:=hs;have z2: ∀g,ah A_s=some g→g∈(keys [(ah A_s,Cl (s.flatMap (fun x=> [sv x])++s1) (ρt 34))])∨w.heap.size≤g:=fun g hg=> .inl (by simp[keys,hg]);have z3:=Ow.le z4;have hF:=Fr.refl (keys [(ah A_s,Cl (s.flatMap (fun x=> [sv x])++s1) (ρt 34))]) w;refine sq fun _ k1=>rg (d8 rfl (Ln k1 (sq fun _ k2=>sq fun _ k3=>rg (Lm rfl (Ly rfl (wm rfl un) (Ly rfl (zS rfl) (Ln k3 (cD rfl (fun hc1=>?_) (fun hc1=>?_)))))))))
 ·refine sq fun _ k4=>rg (Lm rfl (d8 rfl (Ln k4 (wR (i6 (fR (g9 hr rfl) ?_))))));unfold cT;rewrite[if_pos hc1];exact⟨_,_,_,rfl,z4,(st.pk [0] (by decide)).pickK [],hF,kq z2 ko⟩
 refine sk k2 (sq fun _ k5=>sq fun _ k6=>rg (d8 rfl (Ln k6 (bv (lp (fun q E W=> ∃(s3:Int) (r0:List (List UInt8)),E= [(0,.slice A_s s.length c_s),(3,.int .i64 s3)]∧jq q (fun m=>(co s m s3 r0=co s (((s.length:Int)-(1:Int)).toNat+1) (1:Int) s∧((s.length:Int)- s3).toNat<m)) (co s (((s.length:Int)-(1:Int)).toNat+1) (1:Int) s= .inr (s3,r0))∧(1≤s3∧1≤s3)∧Ow A_s s.length c_s 1 (r0.flatMap (fun x=> [sv x])) s1∧(r0.length=s.length)∧St X W [(ah A_s,Cl (r0.flatMap (fun x=> [sv x])++s1) (ρt 34))] []∧Fr (keys [(ah A_s,Cl (s.flatMap (fun x=> [sv x])++s1) (ρt 34))]) w W) (((s.length:Int)-(1:Int)).toNat+1) [(0,_),(3,_)] ⟨rfl,rfl,trivial⟩ ⟨_,_,rfl,⟨rfl,Nat.lt_succ_self _⟩,by first|omega|(simp;done)|(simp;omega),z4,rfl,st,hF⟩ k5 ?_ fun hout1=>?_)))))
 ·rintro E w1 ⟨s3,r0,rfl,hLk1,hinv,howr0,hlmr0,st,hF⟩;unfold jq at hLk1;dsimp only at hLk1;refine sq fun _ k7=>rg (Lm rfl (d8 rfl (Ln k7 (wR (fR (g9 hr rfl) ?_)))));unfold cT;rewrite[if_neg hc1,hLk1];(try dsimp only);exact⟨A_s,c_s,s1,by rw[hlmr0],by rw[hlmr0];exact howr0,(st.pk [0] (by decide)).pickK [],hF,kq z2 ko⟩
 rintro m E w2 ⟨s3,r0,rfl,⟨hL1,hmu⟩,hinv,howr0,hlmr0,st,hF⟩;obtain⟨fuel,rfl⟩: ∃q,m=q+1:=⟨m - 1,by omega⟩;have z1:=Ow.le howr0;refine sq fun _ k8=>sq fun _ k9=>rg (Lm rfl (Lm rfl (Ly rfl (wm rfl un) (Ly rfl (zS rfl) (Ln k9 (cD rfl (fun hc2=>?_) (fun hc2=>?_)))))))
 ·refine sk k8 (sq fun _ uy=>bv (sq fun _ k11=>?_));refine ki (fun W=>St X W (cw (EB st) [0]) (HX st)) [(true,0),(true,1),(true,2),(true,3),(true,4),(true,5),(true,6),(true,7),(true,8),(true,9)] hmx (by kernel_rfl) (by kernel_rfl) rfl ((st.pk [0] (by decide)).drew) ?_;have st:=st.drew;have hF:=hF.step0 (Fr.drew _);refine Pm rfl (Pm rfl ?_);obtain⟨gi1,egi1⟩:=(howr0).some_ (by first|omega|(simp;done)|(simp;omega));subst egi1;refine Py rfl (gc (q:=s3) rfl rfl rfl es (by first|omega|(simp;done)|(simp;omega)) (by first|omega|(simp;done)|(simp;omega))) ?_;refine Py rfl (jw (q:=s3) 0 rfl rfl pl (fun _ h=>gZ.own (i:=0) h.hp rfl howr0 (by decide)) (fun _=>rfl) (by first|omega|(simp;done)|(simp;omega)) (by first|omega|(simp;done)|(simp;omega)) rfl) ?_;refine Pm rfl (Pm rfl (Py rfl (ns (c:=s3 - 1) rfl rfl rfl (bX (by first|omega|(simp;done)|(simp;omega)))) ?_));refine Py rfl (gc (q:=s3 - 1) rfl rfl rfl es (by first|omega|(simp;done)|(simp;omega)) (by first|omega|(simp;done)|(simp;omega))) ?_;refine Py rfl (jw (q:=s3 - 1) 0 rfl rfl pl (fun _ h=>gZ.own (i:=0) h.hp rfl howr0 (by decide)) (fun _=>rfl) (by first|omega|(simp;done)|(simp;omega)) (by first|omega|(simp;done)|(simp;omega)) rfl) ?_;refine Py rfl (EF rfl rfl rfl) (m6 (cL (k11 _ _ (cE rfl (fun hc3=>?_) (fun hc3=>?_)))))
  ·refine sq fun _ xh=>rg (Lm rfl (Lm rfl (Ly rfl (ml (enc:=(fun x=> [sv x])) (xs:=r0) (p:=s3) rfl rfl (hlmr0).symm es rfl rfl (by first|omega|(simp;done)|(simp;omega)) (by first|omega|(simp;done)|(simp;omega)) howr0) ?_)));refine d8 rfl (Ln xh (sq fun _ k13=>sq fun _ k14=>rg (d8 rfl (Ln k14 (bv (lp (fun q E W=> ∃(s3':Int) (s5:Int) (r0':List (List UInt8)),E= [(0,.slice (some ⟨gi1,0,none⟩) s.length c_s),(3,.int .i64 s3'),(4,.slice (some ⟨gi1,0+s3.toNat*1,none⟩) (s.length - s3.toNat) (c_s - s3.toNat)),(5,.int .i64 s5)]∧jq q (fun m=>(cn s s3 r0 m s3' s5 r0'=cn s s3 r0 (((s.length:Int)-(1:Int)).toNat+1) s3 (1:Int) r0∧((s.length:Int)- s5).toNat<m)) (cn s s3 r0 (((s.length:Int)-(1:Int)).toNat+1) s3 (1:Int) r0= .inr (s3',s5,r0'))∧(1≤s5∧s3≤s3'∧s3'<s3+s5∧s5≤s.length - s3∧1≤s3)∧Ow (some ⟨gi1,0,none⟩) s.length c_s 1 (r0'.flatMap (fun x=> [sv x])) s1∧(r0'.length=s.length)∧St X W [(ah (some ⟨gi1,0,none⟩),Cl (r0'.flatMap (fun x=> [sv x])++s1) (ρt 34))] []∧Fr (keys [(ah (some ⟨gi1,0,none⟩),Cl (s.flatMap (fun x=> [sv x])++s1) (ρt 34))]) w W) (((s.length:Int)-(1:Int)).toNat+1) [(0,_),(3,_),(4,_),(5,_)] ⟨rfl,rfl,rfl,rfl,trivial⟩ ⟨_,_,_,rfl,⟨rfl,Nat.lt_succ_self _⟩,by first|omega|(simp;done)|(simp;omega),howr0,hlmr0,st,hF⟩ k13 ?_ fun hout2=>?_))))))
   ·rintro E w3 ⟨s3',s5,r0',rfl,hLk2,hinv,howr0',hlmr0',st,hF⟩;unfold jq at hLk2;dsimp only at hLk2;refine sq fun _ A6=>rg (Lm rfl (Lm rfl (Ly rfl (ml (enc:=(fun x=> [sv x])) (xs:=r0') (p:=s3') rfl rfl (hlmr0').symm es rfl rfl (by first|omega|(simp;done)|(simp;omega)) (by first|omega|(simp;done)|(simp;omega)) howr0') ?_)));refine La rfl (o0 (i:=0) (enc:=(fun x=> [sv x])) (xs:=r0') (u:= []) (p:=s3') rfl rfl rfl (hlmr0').symm es zc rfl (fun _=>rfl) (by intro v hv;simp only[List.mem_singleton]at hv;subst hv;rfl) howr0' (by first|omega|(simp;done)|(simp;omega)) (by first|omega|(simp;done)|(simp;omega)) st.hp rfl (fun w4 how1 (hp:Hp w4 [_]) hf=>?_));have st:St X w4 [_] []:=st.set (i:=0) rfl hp hf;have st:St X w4 [_] []:=st;have hF:=hF.step hf (fun y hy=>z2 y (by simp at hy;subst hy;rfl));have hln1:(r0'.take s3'.toNat++List.replicate (r0'.length - s3'.toNat) []).length=s.length:=by simp only[List.length_append,List.length_take,List.length_replicate];omega
    refine Ln A6 (sq fun _ Eo=>rg (Lm rfl (Lm rfl (Ly rfl (nM (enc:=(fun x=> [sv x])) (xs:=r0'.take s3'.toNat++List.replicate (r0'.length - s3'.toNat) []) (q:=s3') rfl rfl (hln1).symm es rfl rfl (by first|omega|(simp;done)|(simp;omega)) (by first|omega|(simp;done)|(simp;omega)) how1) ?_))));have how2:=Ow.cut (enc:=(fun x=> [sv x])) (xs:=r0'.take s3'.toNat++List.replicate (r0'.length - s3'.toNat) []) (fun _=>rfl) how1 (hln1).symm s3'.toNat;have st:St X _ [_] []:=st.conv (i:=0) rfl (kh s3'.toNat);refine d8 rfl (Ln Eo (wR (pH (i6 (i6 (pH (i6 (fR (g9 hr rfl) ?_))))))));have hret1:co s (((s.length:Int)-(1:Int)).toNat+1) (1:Int) s= .inl ((r0'.take s3'.toNat++List.replicate (r0'.length - s3'.toNat) []).take s3'.toNat):=by rewrite[←hL1,co];rewrite[if_pos hc2,if_pos hc3,hLk2];(try dsimp only);all_goals rfl
    have he3:cT s=((r0'.take s3'.toNat++List.replicate (r0'.length - s3'.toNat) []).take s3'.toNat):=by unfold cT;rewrite[if_neg hc1,hret1];(try dsimp only);all_goals rfl
    rewrite[he3];exact⟨_,_,_,rfl,how2,(st.pk [0] (by decide)).pickK [],hF,kq z2 ko⟩
   rintro m E w5 ⟨s3',s5,r0',rfl,⟨hL2,hmu⟩,hinv,howr0',hlmr0',st,hF⟩;obtain⟨fuel,rfl⟩: ∃q,m=q+1:=⟨m - 1,by omega⟩;have hlehowr0':=Ow.le howr0';refine sq fun _ Ep=>sq fun _ k18=>rg (Lm rfl (Lm rfl (Ly rfl (wm rfl un) (Ly rfl (zS rfl) (Ln k18 (cD rfl (fun hc4=>?_) (fun hc4=>?_)))))))
   ·refine sk Ep (sq fun _ A7=>bv (sq fun _ Cz=>?_));refine ki (fun W=>St X W (cw (EB st) [0]) (HX st)) [(true,0),(true,1),(true,2),(true,3),(true,4),(true,5),(true,6),(true,7),(true,8),(true,9)] hmx (by kernel_rfl) (by kernel_rfl) rfl ((st.pk [0] (by decide)).drew) ?_;have st:=st.drew;have hF:=hF.step0 (Fr.drew _);refine Pm rfl (Pm rfl (Py rfl (m4 (p:=s3) (q:=s5) rfl rfl rfl es (by first|omega|(simp;done)|(simp;omega)) (by first|omega|(simp;done)|(simp;omega)) (by first|omega|(simp;done)|(simp;omega))) ?_));refine Py rfl (jw (q:=s3+s5) 0 rfl rfl pl (fun _ h=>gZ.own (i:=0) h.hp rfl howr0' (by decide)) (fun _=>rfl) (by first|omega|(simp;done)|(simp;omega)) (by first|omega|(simp;done)|(simp;omega)) rfl) ?_;refine Pm rfl (Pm rfl (Py rfl (ns (c:=s5 - 1) rfl rfl rfl (bX (by first|omega|(simp;done)|(simp;omega)))) ?_));refine Py rfl (m4 (p:=s3) (q:=s5 - 1) rfl rfl rfl es (by first|omega|(simp;done)|(simp;omega)) (by first|omega|(simp;done)|(simp;omega)) (by first|omega|(simp;done)|(simp;omega))) ?_;refine Py rfl (jw (q:=s3+(s5 - 1)) 0 rfl rfl pl (fun _ h=>gZ.own (i:=0) h.hp rfl howr0' (by decide)) (fun _=>rfl) (by first|omega|(simp;done)|(simp;omega)) (by first|omega|(simp;done)|(simp;omega)) rfl) ?_;refine Py rfl (EG rfl rfl rfl) (m6 (cL (Cz _ _ (cN rfl (fun hc5=>?_) (fun hc5=>?_)))))
    ·refine sq fun _ CA=>rg (Lm rfl (Lm rfl (Lm rfl (Lm rfl (Ly rfl (m4 (p:=s3) (q:=s5) rfl rfl rfl es (by first|omega|(simp;done)|(simp;omega)) (by first|omega|(simp;done)|(simp;omega)) (by first|omega|(simp;done)|(simp;omega))) ?_)))));refine Ly rfl (jw (q:=s3+s5) 0 rfl rfl pl (fun _ e=>e▸gZ.own (i:=0) st.hp rfl howr0' (by decide)) (fun _=>rfl) (by first|omega|(simp;done)|(simp;omega)) (by first|omega|(simp;done)|(simp;omega)) rfl) ?_;refine Ly rfl (gc (q:=s3') rfl rfl rfl es (by first|omega|(simp;done)|(simp;omega)) (by first|omega|(simp;done)|(simp;omega))) ?_;refine La rfl (o6 (i:=0) (q:=s3') (u:=ix r0' (s3+s5)) rfl rfl rfl rfl rfl (fun _=>rfl) sz (by intro v hv;simp only[List.mem_singleton]at hv;subst hv;rfl) howr0' st.hp rfl (by first|omega|(simp;done)|(simp;omega)) (by first|omega|(simp;done)|(simp;omega)) (by decide) (fun w6 how3 (hp:Hp w6 [_]) hf=>?_));have st:St X w6 [_] []:=st.set (i:=0) rfl hp hf;have st:St X w6 [_] []:=st;have hF:=hF.step hf (fun y hy=>z2 y (by simp at hy;subst hy;rfl));have hln2:(r0'.set s3'.toNat (ix r0' (s3+s5))).length=s.length:=by rw[List.length_set];exact hlmr0'
     rewrite[hln2]at how3;refine Ln CA (rg (Lm rfl (Ly rfl (dE (c:=s3'+1) rfl rfl rfl (bX (by first|omega|(simp;done)|(simp;omega)))) ?_)));refine d8 rfl (cG (km (cL (A7 _ _ (rg (Lm rfl (Ly rfl (dE (c:=s5+1) rfl rfl rfl (bX (by first|omega|(simp;done)|(simp;omega)))) ?_)))))));refine d8 rfl (cG (cL (?_)));exact⟨fuel,[(0,_),(3,_),(4,_),(5,_)],Nat.lt_succ_self _,⟨rfl,rfl,rfl,rfl,trivial⟩,(s3'+1),(s5+1),(r0'.set s3'.toNat (ix r0' (s3+s5))),rfl,⟨by rewrite[←hL2,cn];rewrite[if_pos hc4,if_neg hc5];rfl,by first|omega|(simp;done)|(simp;omega)⟩,by first|omega|(simp;done)|(simp;omega),how3,hln2,(st.pk [0] (by decide)).pickK [],hF⟩
    refine eO (km (cL (A7 _ _ (rg (Lm rfl (Ly rfl (dE (c:=s5+1) rfl rfl rfl (bX (by first|omega|(simp;done)|(simp;omega)))) ?_))))));refine d8 rfl (cG (cL (?_)));exact⟨fuel,[(0,_),(3,_),(4,_),(5,_)],Nat.lt_succ_self _,⟨rfl,rfl,rfl,rfl,trivial⟩,s3',(s5+1),r0',rfl,⟨by rewrite[←hL2,cn];rewrite[if_pos hc4,if_pos hc5];rfl,by first|omega|(simp;done)|(simp;omega)⟩,by first|omega|(simp;done)|(simp;omega),howr0',hlmr0',(st.pk [0] (by decide)).pickK [],hF⟩
   refine fm (i7 (i7 (gW (cL (?_)))));exact hout2 _ [(0,_),(3,_),(4,_),(5,_)] _ ⟨rfl,rfl,rfl,rfl,trivial⟩ ⟨s3',s5,r0',rfl,show _=_ from by rewrite[←hL2,cn];rewrite[if_neg hc4];rfl,by first|omega|(simp;done)|(simp;omega),howr0',hlmr0',(st.pk [0] (by decide)).pickK [],hF⟩
  refine eO (km (cL (uy _ _ (rg (Lm rfl (Ly rfl (dE (c:=s3+1) rfl rfl rfl (bX (by first|omega|(simp;done)|(simp;omega)))) ?_))))));refine d8 rfl (cG (cL (?_)));exact⟨fuel,[(0,_),(3,_)],Nat.lt_succ_self _,⟨rfl,rfl,trivial⟩,(s3+1),r0,rfl,⟨by rewrite[←hL1,co];rewrite[if_pos hc2,if_neg hc3];rfl,by first|omega|(simp;done)|(simp;omega)⟩,by first|omega|(simp;done)|(simp;omega),howr0,hlmr0,(st.pk [0] (by decide)).pickK [],hF⟩
 refine fm (i7 (i7 (gW (cL (?_)))));exact hout1 _ [(0,_),(3,_)] _ ⟨rfl,rfl,trivial⟩ ⟨s3,r0,rfl,show _=_ from by rewrite[←hL1,co];rewrite[if_neg hc2];rfl,by first|omega|(simp;done)|(simp;omega),howr0,hlmr0,(st.pk [0] (by decide)).pickK [],hF⟩
section
variable {U:bQ} {P:Program} {fi tE:Nat} {fn:Go.Func} {ρf ρt:Nat→Nat} {X:List Nat} {w:World}
theorem IF{Y:List Nat}{S:World→Prop}: ∀{xs:List (List UInt8)} {vs:List Value},aQ U Y S .str xs vs→vs=xs.flatMap (fun x=> [sv x])∧ ∀x∈xs,x.length≤9223372036854775807
 | [],vs,h=>⟨h.nil_inv,by simp⟩
 |x::xs,vs,h=>by
  obtain⟨v1,v2,rfl,h1,hl,hr⟩:=h.cons_inv;obtain⟨e1,e2⟩:=h1.inv;obtain⟨e3,e4⟩:=IF hr;refine⟨by rw[show v1=_ from e1,e3];rfl,fun y hy=>?_⟩;rcases List.mem_cons.1 hy with rfl|hy
  ·exact e2
  ·exact e4 y hy
theorem Ck{Y:List Nat}{S:World→Prop}: ∀(xs:List (List UInt8)),(∀x∈xs,x.length≤9223372036854775807)→aQ U Y S .str xs (xs.flatMap (fun x=> [sv x]))
 | [],_=> .nil _
 |x::xs,h=> .cons .str x xs [sv x] _ (aD.str x (h x (by simp))) rfl (Ck xs fun y hy=>h y (by simp[hy]))
theorem sK [ao]{ρ:Nat→Rz}{n i:Nat}{H:Hs U}{xs:List (List UInt8)}{v:Value}(M:bu U X (· =w) ρ n H)(hl:aF H i=some (.row 0 .str xs tE))(h:cP (Vw U X w ρ n H) ⟨false,[(1,.own i 0)]⟩ v):
  ∃(sp:List Value),i<n∧(∀x∈xs,x.length≤9223372036854775807)∧v= .slice (ρ i).A xs.length (ρ i).c∧Ow (ρ i).A xs.length (ρ i).c 1 (xs.flatMap (fun x=> [sv x])) sp∧ ∀g,ah (ρ i).A=some g→w.heap[g]? =some (Cl (xs.flatMap (fun x=> [sv x])++sp) tE):=by
 obtain⟨hi,A,l,c,e1,hnow⟩:=(show Vw U X w ρ n H (.own i 0) [v]from(bR.one1 h).1);injection e1 with e1;subst e1;obtain⟨rfl,rfl,rfl⟩:=(hnow _ _ _ (by rw[hl];rfl)).2 rfl;obtain⟨hm,cs,sp,hdx,how0,hw⟩:=M.ent _ (al hl);obtain⟨e1,e2⟩:=IF hdx;subst e1;exact⟨sp,hi,e2,rfl,how0,fun g hg=>hw g hg w rfl⟩
def Oh(l:List (List UInt8)):List (List UInt8):=dd l
def pV(U:bQ)(tE:Nat):bh U:=⟨[.n],fun xs es K=> ∃l:List (List UInt8),xs= [⟨false,[(1,.own 0 0)]⟩]∧es= [.row 0 .str l tE]∧K (.v ⟨false,[(1,.own 0 1)]⟩) [.row 1 .str (Oh l) tE]⟩
theorem ux(hen:aS P fi=true)(hf:P.funcs[fi]? =some fn)(hb:fn.body=some (e9 ρf ρt (dn Tryz.f139)))(hn:fn.ntmps=61)(hr:fn.results= #[.tmp 2])(hmx:P.follows .mixedOrders=true)(i64:P.underlying (ρt 3)=some (.int .i64))(hE:tE=ρt 34)(es:ax P (ρt 37)=some (tE,1))(un:P.underlying (ρt 37)=some (.slice tE))(pl:du P tE=true)(sz:(P.info? tE).map (·.size)=some 1)(zc:zeroCells P tE=some [sv []]):cc P U fi (pV U tE):=fun [F:ao] hpr X w ρ es0 xs vs K M hv hrun=>by
 obtain⟨l,rfl,rfl,hK⟩:=hrun;obtain⟨v,us,rfl,h1,h3⟩:=hv;rw[show us= []from h3];have hl:aF (aJ 0 [(aM.row 0 .str l tE:aM U)]) 0=some (.row 0 .str l tE):=rfl;obtain⟨sp,hi,hlen,rfl,how0,hw⟩:=sK M hl h1;have dj: ∀g,ah (ρ 0).A=some g→g∉X:=fun g hg=>M.dj g (gw (s:= .str) hl hg);refine Fn.mono (uw hen hf hb hn hr hmx i64 hE es un pl sz zc X w l (ρ 0).A (ρ 0).c sp (oo (M.lo w rfl) hw dj) how0) ?_;rintro v w' ⟨A',c',sp',rfl,how,st,hf',hk⟩;rw[nc]at how st⊢;rw[dN]at hf';obtain⟨ρ',a1,a2,a3⟩:=Ci (el:=tE) (s:= .str) M hi hl (show 0<1 from Nat.one_pos) hf' (fun g' hg'=>(hk g' (by simp[keys,nc,hg'])).imp (fun h=>by rw[dN]at h;simpa using h) id) (Ck (dd l) fun x hx=>hlen x ((zr l x).1 hx)) how (fun g' hg'=>st.hp.at (i:=0) (by rw[hg'];rfl));exact⟨_,_,ρ',hK,a1,a2,a3⟩
def y8(U:bQ)(tE:Nat):bh U:=⟨[.n],fun xs es K=> ∃l:List (List UInt8),xs= [⟨false,[(1,.own 0 0)]⟩]∧es= [.row 0 .str l tE]∧l.length<4611686018427387904∧K (.tup []) [.row 0 .str (ja l) tE]⟩
open Go.Shelf Go.Lib Go.Sort in
theorem Cm(hen:aS P fi=true)
  (hC: ∀(blk cap:Nat) (ss:List (List UInt8)) (w:World),Holds encStr w blk 0 ss.toArray→blk<w.heap.size→ss.length<4611686018427387904→Calls P fi #[.slice (some ⟨blk,0,none⟩) ss.length cap] w fun e w'=>e= .returned (.tuple #[])∧ ∃n os,w'=grow (putRow encStr (Sort.ahead w n) blk 0 (ss.mergeSort fun x y=>decide (x≤y)).toArray) os)
  (hN: ∀(p:Option Addr) (cap:Nat) (w:World),Calls P fi #[.slice p 0 cap] w fun e w'=>e= .returned (.tuple #[])∧w'=w):cc P U fi (y8 U tE):=fun [F:ao] hpr X w ρ es0 xs vs K M hv hrun=>by
 obtain⟨l,rfl,rfl,h62,hK⟩:=hrun;obtain⟨v,us,rfl,h1,h3⟩:=hv;rw[show us= []from h3];have hl:aF (aJ 0 [(aM.row 0 .str l tE:aM U)]) 0=some (.row 0 .str l tE):=rfl;obtain⟨sp,hi,hlen,rfl,how0,hw⟩:=sK M hl h1;have dj: ∀g,ah (ρ 0).A=some g→g∉X:=fun g hg=>M.dj g (gw (s:= .str) hl hg);refine Fn.mono (xB hen hC hN X w l (ρ 0).A (ρ 0).c sp (oo (M.lo w rfl) hw dj) how0 h62) ?_;rintro v w' ⟨rfl,how,e,st,hf'⟩;rw[←e]at how;rw[dN]at hf';obtain⟨ρ',a2,a3⟩:=IE (el:=tE) (s:= .str) M hl (show 0<1 from Nat.one_pos) hf' (List.length_mergeSort _) (Ck (ja l) fun x hx=>hlen x ((List.mergeSort_perm _ _).mem_iff.1 hx)) how (fun g' hg'=>st.hp.at (i:=0) (by rw[hg'];rfl));exact⟨_,_,ρ',hK,⟨[],rfl,rfl⟩,a2,a3⟩
def y9(U:bQ):bh U:=⟨[.d .str,.d .str],fun xs es K=> ∃s sep:List UInt8,xs= [⟨false,[(1,.d .str s)]⟩,⟨false,[(1,.d .str sep)]⟩]∧es= []∧s.length≤1000000∧1≤sep.length∧K (.v ⟨false,[(1,.d (.sl .str) (Lib.split s sep))]⟩) []⟩
theorem ot(sep:ByteArray)(save:Nat): ∀(k:Nat) (s x:ByteArray),x∈Lib.splitB sep save k s→x.size≤s.size
 |0,s,x,h=>by simp[Lib.splitB]at h;subst h;exact Nat.le_refl _
 |k+1,s,x,h=>by
  unfold Lib.splitB at h;split at h
  ·simp at h;subst h;exact Nat.le_refl _
  ·rcases List.mem_cons.1 h with rfl|h
   ·rw[ByteArray.size_extract];omega
   ·have:=ot sep save k _ x h;rw[ByteArray.size_extract]at this;omega
theorem kL{s sep:List UInt8}(h1:1≤sep.length):(Lib.split s sep).length=Lib.count s sep+1:=by
 have:=Lib.splitB_all ⟨sep.toArray⟩ (by simpa[ByteArray.size]using h1) 0 (Lib.count s sep) ⟨s.toArray⟩ (by simp);have h2:=congrArg List.length (Lib.splitB_data ⟨sep.toArray⟩ 0 (Lib.count s sep) ⟨s.toArray⟩);rw[List.length_map,this]at h2;unfold Lib.split;simpa using h2.symm
theorem Cn(hen:aS P fi=true)(hC: ∀(s sep:ByteArray) (m:Int) (w:World),s.size<4294967281→w.cell? ⟨0,0,none⟩=some (.int .i64 m)→1≤sep.size→Calls P fi #[.string s,.string sep] w fun e w'=>
   e= .returned (.slice (some ⟨w.heap.size,0,none⟩) (Lib.countB s sep+1) (Lib.countB s sep+1))∧w'=w.alloc (.cells ((Lib.splitB sep 0 (Lib.countB s sep) s).map Value.string).toArray tE)):cc P U fi (y9 U):=fun [F:ao] hpr X w ρ es0 xs vs K M hv hrun=>by
 obtain⟨s,sep,rfl,rfl,hs,h1,hK⟩:=hrun;obtain⟨v,us,rfl,ha,v2,us2,rfl,hb,h3⟩:=hv;rw[show us2= []from h3];obtain⟨e1,_⟩:=aD.inv (show aD U _ _ .str s [v]from(bR.one1 ha).1);obtain⟨e2,_⟩:=aD.inv (show aD U _ _ .str sep [v2]from(bR.one1 hb).1);injection e1 with e1;injection e2 with e2;subst e1;subst e2;obtain⟨mx,hm⟩:=M.gv.2 w rfl;refine⟨hen,(hC ⟨s.toArray⟩ ⟨sep.toArray⟩ mx w (by simp[ByteArray.size];omega) hm (by simpa[ByteArray.size]using h1)).mono ?_⟩;rintro e w' ⟨rfl,rfl⟩;have hlen:=kL (s:=s) h1;have hd2:=Lib.splitB_data ⟨sep.toArray⟩ 0 (Lib.count s sep) ⟨s.toArray⟩;have hsp:Lib.split s sep=(Lib.splitB ⟨sep.toArray⟩ 0 (Lib.count s sep) ⟨s.toArray⟩).map (·.data.toList):=by rw[hd2];rfl
 have hcells:((Lib.splitB ⟨sep.toArray⟩ 0 (Lib.countB ⟨s.toArray⟩ ⟨sep.toArray⟩) ⟨s.toArray⟩).map Value.string)=(Lib.split s sep).flatMap (fun x=> [sv x]):=by
  rw[nN,hsp,List.map_map];apply List.map_congr_left;intro x _;cases x;rfl
 have hcount:Lib.count s sep≤s.length:=by
  have:=Lib.countB_le ⟨sep.toArray⟩ (by simpa[ByteArray.size]using h1) s.length ⟨s.toArray⟩ (by simp[ByteArray.size]);simpa[ByteArray.size]using this
 have hf:Fr [] w (w.alloc (.cells ((Lib.splitB ⟨sep.toArray⟩ 0 (Lib.countB ⟨s.toArray⟩ ⟨sep.toArray⟩) ⟨s.toArray⟩).map Value.string).toArray tE)):=Fr.alloc w _;refine⟨_,rfl,_,_,ρ,hK,?_,(M.keep0 hf).1,(M.keep0 hf).2⟩;refine ia ?_;show aD U _ _ (.sl .str) (Lib.split s sep) [_]
 have hle: ∀x∈Lib.split s sep,x.length≤9223372036854775807:=fun x hx=>by
  rw[hsp]at hx;obtain⟨y,hy,rfl⟩:=List.mem_map.1 hx;have:=ot _ _ _ _ _ hy;have e1:y.size=y.data.toList.length:=Array.length_toList.symm;have e2:(⟨s.toArray⟩:ByteArray).size=s.length:=List.size_toArray;omega
 have hrd:kZ (ak ρ (aJ 0 ([]:List (aM U)))++X) (w.alloc (.cells ((Lib.splitB ⟨sep.toArray⟩ 0 (Lib.countB ⟨s.toArray⟩ ⟨sep.toArray⟩) ⟨s.toArray⟩).map Value.string).toArray tE)) (some ⟨w.heap.size,0,none⟩) ((Lib.split s sep).flatMap (fun x=> [sv x])):=by
  intro j v hj;refine⟨w.heap.size,0,rfl,fun hx=>?_,?_⟩
  ·have:=M.lo w rfl _ (show w.heap.size∈X from hx);omega
  ·rw[Nat.zero_add,hcells];unfold World.cell?;simp only[heap_alloc_new];simpa using hj
 have:=aD.sl (U:=U) (Y:=ak ρ (aJ 0 [])++X) (S:=(· =w.alloc (.cells ((Lib.splitB ⟨sep.toArray⟩ 0 (Lib.countB ⟨s.toArray⟩ ⟨sep.toArray⟩) ⟨s.toArray⟩).map Value.string).toArray tE))) .str (Lib.split s sep) (some ⟨w.heap.size,0,none⟩) (Lib.count s sep+1) _ (Ck _ hle) (fun w2 h2=>by rw[h2];exact hrd) (Nat.le_of_eq hlen) (by unfold maxLen;omega);rw[show(List.length (α:=TT U.ty .str) (Lib.split s sep))=Lib.count s sep+1 from hlen]at this;exact this
end
theorem Co(s:List UInt8)(p:Int):0≤xw s p∧xw s p≤1114111:=by have:=Lib.rune_le ⟨s.toArray⟩ p.toNat;unfold xw;omega
def cX(s:List UInt8)(f:Int→Bool)(truth:Bool):Nat→Int→(Int)⊕(Int)
 |0,pgr1=> .inr (pgr1)
 |fuel+1,pgr1=>
  if pgr1<(s.length:Int)then
   if(f (xw s pgr1))=truth then
    .inl pgr1
   else
    cX s f truth fuel (pgr1+ru s pgr1)
  else
   .inr (pgr1)
def iL(s:List UInt8)(f:Int→Bool)(truth:Bool):Int:=
 match cX s f truth (((s.length:Int)-(0:Int)).toNat+1) (0:Int)with
 | .inl r=>r
 | .inr (pgr1)=>
  (-1)
theorem xb(w:World)(s:List UInt8)(f1:Value)(f:Int→Bool)(truth:Bool)(z1: ∀(w1:World) (x0:Int),Fr ([]) w w1→0≤x0∧x0≤1114111→oU Tryz.prog f1 [.int .i32 x0] w1 fun v w2=>v= .bool (f x0)∧Fr [] w1 w2):
  Fn Tryz.prog 121 [sv s,f1,.bool truth] w fun v w'=>v= .int .i64 (iL s f truth)∧Fr [] w w':=by
 refine jB 21 (by kernel_rfl) Tryz.func121 rfl rfl rfl ?_;dsimp only[cV];have st:=CX (X:= []) (w:=w) (by simp[Lo]);have hF:=Fr.refl ([]) w;refine sq fun _ k1=>rg (d8 rfl (Ln k1 (sq fun _ k2=>sq fun _ k3=>rg (Lm rfl (La rfl (zQ (s:=s) rfl rfl rfl rfl Tryz.underlying9 st.hp (fun gr1 w1 (hp:Hp w1 [_]) hf hg1=>?_)))))));have st:St [] w1 [_] []:=st.push hp hf hg1;have hg1:=Nat.le_trans hF.size hg1;have hF:=hF.step0 hf;refine Ln k3 (bv (lp (fun q E W=> ∃(pgr1:Int),E= [(1,f1),(2,.bool truth),(10,.pointer (some ⟨gr1,0,none⟩))]∧jq q (fun m=>(cX s f truth m pgr1=cX s f truth (((s.length:Int)-(0:Int)).toNat+1) (0:Int)∧((s.length:Int)- pgr1).toNat<m)) (cX s f truth (((s.length:Int)-(0:Int)).toNat+1) (0:Int)= .inr (pgr1))∧(0≤pgr1)∧St [] W [(some gr1,Obj.stringIter ⟨s.toArray⟩ pgr1.toNat)] []∧Fr ([]) w W) (((s.length:Int)-(0:Int)).toNat+1) [(1,_),(2,_),(10,_)] ⟨rfl,rfl,rfl,trivial⟩ ⟨_,rfl,⟨rfl,Nat.lt_succ_self _⟩,by first|omega|(simp;done)|(simp;omega),st,hF⟩ k2 ?_ fun hout1=>?_))
 ·rintro E w2 ⟨pgr1,rfl,hLk1,hinv,st,hF⟩;unfold jq at hLk1;dsimp only at hLk1;refine sq fun _ k4=>rg (d8 rfl (Ln k4 (wR (fR (g9 rfl rfl) ?_))));unfold iL;rewrite[hLk1];(try dsimp only);exact⟨rfl,hF⟩
 rintro m E w3 ⟨pgr1,rfl,⟨hL1,hmu⟩,hinv,st,hF⟩;obtain⟨fuel,rfl⟩: ∃q,m=q+1:=⟨m - 1,by omega⟩;refine sq fun _ k5=>rg ?_;have hdw1:=oT s pgr1;refine Dj (ld rfl) (CV (ir:=0) (s:=s) (pos:=pgr1) rfl rfl rfl rfl st.hp rfl (by omega) (fun hc1=>?_) (fun w4 hc1 (hp:Hp w4 [_]) hf=>?_))
 ·refine Lx rfl (Ln k5 (sq fun _ k6=>gF rfl (fm (i7 (i7 (gW (cL (?_))))))));exact hout1 _ [(1,_),(2,_),(10,_)] _ ⟨rfl,rfl,rfl,trivial⟩ ⟨pgr1,rfl,show _=_ from by rewrite[←hL1,cX];rewrite[if_neg hc1];rfl,by first|omega|(simp;done)|(simp;omega),(st.pk [0] (by decide)).pickK [],hF⟩
 have st:St [] w4 [_] []:=st.set (i:=0) rfl hp hf;have st:St [] w4 [_] []:=st;have hF:=hF.step hf (by intro y hy;simp only[List.mem_cons,List.not_mem_nil,or_false]at hy;subst hy;first|(exact Or.inr (by omega))|(exact Or.inl (NP _ _))|(exact Or.inl (by simp)));refine Lx rfl (Ln k5 (sq fun _ k7=>ep rfl (sk k7 (bv (sq fun _ k8=>rg (Lx rfl (Lx rfl (d8 rfl (d8 rfl (Ln k8 (sq fun _ k9=>rg (Lm rfl (Lm rfl (La rfl (NH st hF rfl (z1 _ (xw s pgr1) hF (Co s pgr1)) fun w5 st hF=>Lm rfl (Ly rfl (EE rfl rfl rfl Tryz.underlying4) (Ln k9 (cE rfl (fun hc2=>?_) (fun hc2=>?_)))))))))))))))))))
 ·refine sq fun _ uy=>rg (Lm rfl (d8 rfl (Ln uy (wR (pH (i6 (pH (i6 (fR (g9 rfl rfl) ?_)))))))));have hret1:cX s f truth (((s.length:Int)-(0:Int)).toNat+1) (0:Int)= .inl pgr1:=by rewrite[←hL1,cX];rewrite[if_pos hc1,if_pos hc2];rfl
  have he2:iL s f truth=pgr1:=by unfold iL;rewrite[hret1];(try dsimp only);all_goals rfl
  rewrite[he2];exact⟨rfl,hF⟩
 refine eO (km (cL (?_)));exact⟨fuel,[(1,_),(2,_),(10,_)],Nat.lt_succ_self _,⟨rfl,rfl,rfl,trivial⟩,(pgr1+ru s pgr1),rfl,⟨by rewrite[←hL1,cX];rewrite[if_pos hc1,if_neg hc2];rfl,by first|omega|(simp;done)|(simp;omega)⟩,by first|omega|(simp;done)|(simp;omega),(st.pk [0] (by decide)).pickK [],hF⟩
def iM(s:List UInt8)(f:Int→Bool):Int:=
 iL s f true
theorem xc(w:World)(s:List UInt8)(f1:Value)(f:Int→Bool)(z1: ∀(w1:World) (x0:Int),Fr ([]) w w1→0≤x0∧x0≤1114111→oU Tryz.prog f1 [.int .i32 x0] w1 fun v w2=>v= .bool (f x0)∧Fr [] w1 w2):
  Fn Tryz.prog 68 [sv s,f1] w fun v w'=>v= .int .i64 (iM s f)∧Fr [] w w':=by
 refine jB 8 (by kernel_rfl) Tryz.func68 rfl rfl rfl ?_;dsimp only[cV];have st:=CX (X:= []) (w:=w) (by simp[Lo]);have hF:=Fr.refl ([]) w;refine sq fun _ k1=>rg (d8 rfl (Ln k1 (sq fun _ k2=>rg (Lm rfl (Lm rfl (La rfl (OG st hF rfl (xb _ s f1 f true (fun w1 x0 hw hr=>z1 w1 x0 (hF.step0 hw) hr)) fun w1 st hF=>d8 rfl (Ln k2 (wR (fR (g9 rfl rfl) ?_))))))))));unfold iM;exact⟨rfl,hF⟩
section
variable {U:bQ}
def v6(U:bQ):bh U:=⟨[.d .str,.f1 (.int .i32)],fun xs es K=> ∃(s:List UInt8) (g:Int→Bool),xs= [⟨false,[(1,.d .str s)]⟩,⟨false,[(1,.f1 (.int .i32) g)]⟩]∧es= []∧K (.v ⟨false,[(1,.d (.int .i64) (iM s g))]⟩) []⟩
theorem pW(s:List UInt8)(f:Int→Bool)(truth:Bool): ∀(fuel:Nat) (p:Int),0≤p→(∃q,cX s f truth fuel p= .inl q∧0≤q∧q<s.length)∨ ∃q,cX s f truth fuel p= .inr q
 |0,p,h=> .inr ⟨p,rfl⟩
 |fuel+1,p,h=>by
  unfold cX;split
  ·split
   ·exact .inl ⟨p,rfl,h,by omega⟩
   ·have:=oT s p;exact pW s f truth fuel _ (by omega)
  ·exact .inr ⟨_,rfl⟩
theorem za:cc Tryz.prog U 68 (v6 U):=fun [F:ao] hpr X w ρ es0 xs vs K M hv hrun=>by
 obtain⟨s,g,rfl,rfl,hK⟩:=hrun;obtain⟨v,us,rfl,ha,v2,us2,rfl,hb,h3⟩:=hv;rw[show us2= []from h3];obtain⟨e1,hsl⟩:=aD.inv (show aD U _ _ .str s [v]from(bR.one1 ha).1);injection e1 with e1;subst e1;obtain⟨u',e,hv⟩:=(show Vw U X w ρ 0 (aJ 0 []) (.f1 (.int .i32) g) [v2]from(bR.one1 hb).1);injection e with e;subst e;refine Fn.mono (xc w s _ g (fun w1 x0 hf hx=>?_)) ?_
 ·have mv:Mv (ak ρ (aJ 0 ([]:List (aM U)))++X) (· =w) (ak ρ (aJ 0 ([]:List (aM U)))++X) (· =w1):=OQ hf;have h1:=xK.call (U:=U) (a:= .int .i32) (v:= .int .i32 x0) (t:=(x0:Int)) (hv.mv mv) M.gY (aD.int .i32 x0 ⟨by omega,by omega⟩) rfl;rw[hpr]at h1;exact h1
 ·rintro v w' ⟨rfl,hf'⟩;have hr:d9 .i64 (iM s g):=by
   unfold iM iL;rcases pW s g true (((s.length:Int)-(0:Int)).toNat+1) 0 (by omega)with⟨q,e,h1,h2⟩|⟨q,e⟩
   ·rw[e];exact⟨by simp only;omega,by simp only;omega⟩
   ·rw[e];exact(show d9 .i64 (-1)from⟨by decide,by decide⟩)
  exact⟨_,_,ρ,hK,ia (aD.int .i64 _ hr),(M.keep0 hf').1,(M.keep0 hf').2⟩
end
end Go.Proofs.YtiliglahlfkikaaGreatDoor.V
end
