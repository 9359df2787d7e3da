/- Ranges over a string: a rune and its place each time. -/
import Derived.Test.YtmpeiadlohbikaaGreatDoorAt16
import Derived.Shelf.Small.Bits
import Derived.Shelf.Utf8.RuneCount
import Derived.Shelf.Strconv.Itoa0
import Derived.Shelf.Strings.Search1
import Derived.Shelf.Strings.Search2
import Derived.Shelf.Strings.Search3
import Derived.Shelf.Strings.Count
import Derived.Shelf.LaysM
import Derived.Shelf.Strings.Shaped
import Derived.Shelf.Sort.Plain
import Derived.Shelf.GgClosure.StringsIndexFunc
import Derived.Ground.GgwProg
import Derived.Shelf.GgClosure.StringsIndexFuncTop
import Derived.Shelf.Strings.Split
import Derived.Shelf.Strings.SplitShaped
import Derived.Shelf.Unicode.Decode
import Derived.Shelf.Strings.RuneCount
import Derived.Shelf.Strings.Explode
import Derived.Shelf.Unicode.DecodeSlow
import Derived.Shelf.Unicode.DecodeAny
import Derived.Shelf.Strings.FuncGrows
import Derived.Shelf.Slices.CompactS
import Derived.Ground.Names2Prog
import Derived.Shelf.Slices.SearchI
import Derived.Shelf.Slices.Cells
import Derived.Shelf.Slices.In.SortNone
import Derived.Shelf.SlSortCmp.NoneTotal
import Derived.Shelf.SlGeneric
import Derived.Ground.SlsfProg
import Derived.Test.YtmpeiadlohbikaaGreatDoorProg
import Derived.Test.YtmpeiadlohbikaaGreatDoorAt3
import Derived.Laws.RangeString
import Derived.Lib.OthersKept
import Derived.Lib.TrimU
import Derived.Maps.RangeRun
section
set_option linter.unusedVariables false
set_option linter.unusedSimpArgs false
namespace Go.Proofs.YtmpeiadlohbikaaGreatDoor.V
open Go.RowKit Go.Shelf Go.Lib Go.Sort
section
variable {U:bD} {P:Program} {ρs:Ren} {tE:Nat} {s:aZ} {ei:TI U}
theorem jX{α β:Type}(p:α→Prop)(φ:α→List β): ∀(l:List α) (h: ∀x∈l,p x),(l.attachWith p h).flatMap (fun a=>φ a.1)=l.flatMap φ:=fun l h=>by
 conv=>rhs;rw[←List.attachWith_map_subtype_val (p:=p) (l:=l) h]
 rw[List.flatMap_map]
theorem jY{α β:Type}(p:α→Prop)(φ:α→β)(l:List α)(h: ∀x∈l,p x):(l.attachWith p h).map (fun a=>φ a.1)=l.map φ:=by
 conv=>rhs;rw[←List.attachWith_map_subtype_val (p:=p) (l:=l) h]
 rw[List.map_map];rfl
theorem rh{α β:Type}(φ:α→β)(g:β→β→Int)(l:List α):(bk (fun a b=>g (φ a) (φ b)) l).map φ=bk g (l.map φ):=by
 unfold bk;exact List.map_mergeSort (r:=fun x y=>!ltOf (fun a b=>g (φ a) (φ b)) y x) (s:=fun x y=>!(ltOf g) y x) (f:=φ) (fun a _ b _=>rfl)
def fP{α:Type}(l:List α)(g:α→α→Int):Prop:=SWO (ltOf g)∧ ∀x∈l,∀y∈l,ltOf g x y=false→ltOf g y x=false→x=y
def Az(U:bD)(s:aZ)(tE:Nat):aW U:=⟨[.n,.f2 s s],fun xs es K=> ∃(l:List (TT U.ty s)) (g:TT U.ty s→TT U.ty s→Int),xs= [⟨false,[(1,.own 0 0)]⟩,⟨false,[(1,.f2 s s g)]⟩]∧es= [.row 0 s l tE]∧fP l g∧l.length<4611686018427387904∧K (.tup []) [.row 0 s (bk g l) tE]⟩
theorem sI [ao]{X:List Nat}{w w1:World}{ρ:Nat→Rz}{H:Hs U}{g:TT U.ty s→TT U.ty s→Int}{f:FuncId}{ca:List Value}(hpr:ao.pr=P)(hag:eK s=true)(hv:y4 U (aj ρ H++X) (· =w) (.func (.func f) #[] ca.toArray) s s g)(x y:Em U (aj ρ H++X) w s){O:List Nat}(hf:Fr O w w1)(hO: ∀y∈O,y∈aj ρ H)(xd: ∀g∈aj ρ H,g∉ao.xf)(hY: ∀z∈gB,z∈aj ρ H++X):
  Fn P f ([.agg x.c.toArray,.agg y.c.toArray]++ca) w1 fun v w2=>v= .int .i64 (g x.x y.x)∧Fr [] w1 w2:=by
 have mv:Mv (aj ρ H++X) (· =w) (aj ρ H++X) (· =w1):=fun w2 h2=>⟨w,O,rfl,by subst h2;exact hf,fun y hy=>⟨List.mem_append_left _ (hO y hy),xd y (hO y hy)⟩,fun y hy=> .inl hy⟩;have h1:=y4.call (v:= .agg x.c.toArray) (v':= .agg y.c.toArray) (hv.mv mv) hY (t:=x.x) (t':=y.x) (by simpa[Value.cells]using aC.mv mv x.den) (by unfold d4;rw[hag];simp[Value.cells]) (by simpa[Value.cells]using aC.mv mv y.den) (by unfold d4;rw[hag];simp[Value.cells]);rw[hpr]at h1;obtain⟨f',fi,ca',e,h2⟩:=h1;injection e with e1 e2 e3;injection e1 with e1;subst e1;have e2:fi= []:=by
  have:=congrArg Array.toList e2;simpa using this.symm
 have e3:ca=ca':=by
  have:=congrArg Array.toList e3;simpa using this
 subst e2;subst e3;exact Fn.mono h2 fun v w' ⟨a,_,b⟩=>⟨a,b⟩
theorem AA(L:SlLaysF0.n6 P ρs)(hen:aF P (ρs.f 6)=true)(hag:eK s=true)(ag:ba P (ρs.t 24)=some (aG U s))(sz:(P.info? (ρs.t 24)).map (·.size)=some (aG U s))(hti:aT U P tE ei)(hz: ∃z,cG 20 s ei.zero fun x=>x=z)(hm0:0<aG U s)
  (hfl: ∀(Y:List Nat) (w:World) (x:TT U.ty s) (c c':List Value),aC U Y (· =w) s x c→aC U Y (· =w) s x c'→c=c'):bh P U (ρs.f 6) (Az U s tE):=fun [F:ao] hpr X w ρ es0 xs vs K M hv hrun=>by
 obtain⟨l,g,rfl,rfl,⟨hO,hT⟩,hl62,hK⟩:=hrun;obtain⟨v,us,rfl,h1,v2,us2,rfl,h2,h3⟩:=hv;rw[show us2= []from h3];have hl:aD (au 0 [aH.row 0 s l tE]) 0=some (.row 0 s l tE):=rfl;obtain⟨em,sp,hi,e1,e2,rfl,how0,hw⟩:=iR M hl h1;obtain⟨I,hu⟩:=fq hti hz (aj ρ (au 0 [aH.row 0 s l tE])++X) w;obtain⟨u',e,hv2⟩:=(show Vw U X w ρ 1 (au 0 [aH.row 0 s l tE]) (.f2 s s g) [v2]from(bJ.one1 h2).1);injection e with e;subst e;obtain⟨f,ca,rfl⟩:=hv2.1;have dj: ∀g,ab (ρ 0).A=some g→g∉X:=fun g hg=>M.dj g (ew hl hg);have hkey: ∀cs,∀y∈aQ [(ab (ρ 0).A,Cl cs tE)],y∈aj ρ (au 0 [aH.row 0 s l tE]):=fun cs y hy=>by
  rw[dw]at hy;exact ew hl (by simpa using hy)
 have hen2:aF P f=true:=(sI hpr hag hv2 (default:Em U (aj ρ (au 0 [aH.row 0 s l tE])++X) w s) default (Fr.refl [] w) (fun y hy=>by cases hy) M.xd M.gY).1;have key: ∀(p:Em U (aj ρ (au 0 [aH.row 0 s l tE])++X) w s→Prop) (hp: ∀x∈em,p x) (e0:Em U (aj ρ (au 0 [aH.row 0 s l tE])++X) w s) (h0:p e0),(∀x y,p x→p y→ltOf g x.x y.x=false→ltOf g y.x x.x=false→x.x=y.x)→
   Fn P (ρs.f 6) [.slice (ρ 0).A em.length (ρ 0).c,.func (.func f) #[] ca.toArray] w fun v w'=>v= .tuple #[]∧ ∃em':List (Em U (aj ρ (au 0 [aH.row 0 s l tE])++X) w s),em'.map (·.x)=bk g l∧Ow (ρ 0).A em.length (ρ 0).c (aG U s) (em'.flatMap (·.c)) sp∧(∀g,ab (ρ 0).A=some g→w'.heap[g]? =some (Cl (em'.flatMap (·.c)++sp) tE))∧Fr (ab (ρ 0).A).toList w w':=by
  intro p hp e0 h0 hT'
  haveI:Inhabited {x:Em U (aj ρ (au 0 [aH.row 0 s l tE])++X) w s//p x}:=⟨⟨e0,h0⟩⟩
  have hfm:=jX p (fun e:Em U (aj ρ (au 0 [aH.row 0 s l tE])++X) w s=>e.c) em hp;have hlen:(em.attachWith p hp).length=em.length:=List.length_attachWith;have hs:=Bi (enc:=fun a:{x:Em U (aj ρ (au 0 [aH.row 0 s l tE])++X) w s//p x}=>a.1.c) (k:=aG U s) (e:=tE) L (xL ag) (bX sz) (fun x=>x.1.hl) hm0 (fun x=>x.1.h1) (cf:=fun a b=>g a.1.x b.1.x)
   ⟨fun x=>hO.1 x.1.x,fun x y z=>hO.2 x.1.x y.1.x z.1.x,fun x y z=>hO.3 x.1.x y.1.x z.1.x⟩
   (fun x y h1 h2=>by
    have e:=hT' x.1 y.1 x.2 y.2 h1 h2;obtain⟨⟨x,c,d⟩,hx⟩:=x;obtain⟨⟨y,c',d'⟩,hy⟩:=y;simp only at e;subst e;have:=hfl _ _ _ _ _ d d';subst this;rfl) (g:=f) (cb:=ca) (qb hen2) hen X w (em.attachWith p hp) (by rw[hlen];omega) (ρ 0).A (ρ 0).c sp (by rw[hfm];exact lG (M.lo w rfl) hw dj) (by rw[hfm,hlen];exact how0)
   (fun w1 x y hf1=>sI hpr hag hv2 x.1 y.1 hf1 (hkey _) M.xd M.gY)
  rw[hlen]at hs;refine hs.mono ?_;rintro v w' ⟨rfl,a1,a2,a3,a4⟩;refine⟨rfl,(bk (fun a b:{x:Em U (aj ρ (au 0 [aH.row 0 s l tE])++X) w s//p x}=>g a.1.x b.1.x) (em.attachWith p hp)).map (·.1),?_,?_,fun g' hg'=>?_,?_⟩
  ·rw[List.map_map];have:=rh (fun a:{x:Em U (aj ρ (au 0 [aH.row 0 s l tE])++X) w s//p x}=>a.1.x) g (em.attachWith p hp);rw[show((fun x:Em U (aj ρ (au 0 [aH.row 0 s l tE])++X) w s=>x.x)∘fun x:{x:Em U (aj ρ (au 0 [aH.row 0 s l tE])++X) w s//p x}=>x.1)=fun a=>a.1.x from rfl,this];have h9:=jY p (fun e:Em U (aj ρ (au 0 [aH.row 0 s l tE])++X) w s=>e.x) em hp;rw[h9,e1]
  ·rw[List.flatMap_map];exact a1
  ·rw[List.flatMap_map];exact a3.hp.at (i:=0) (by rw[hg'];rfl)
  ·rw[dw]at a4;exact a4
 have main:Fn P (ρs.f 6) [.slice (ρ 0).A em.length (ρ 0).c,.func (.func f) #[] ca.toArray] w fun v w'=>v= .tuple #[]∧ ∃em':List (Em U (aj ρ (au 0 [aH.row 0 s l tE])++X) w s),em'.map (·.x)=bk g l∧Ow (ρ 0).A em.length (ρ 0).c (aG U s) (em'.flatMap (·.c)) sp∧(∀g,ab (ρ 0).A=some g→w'.heap[g]? =some (Cl (em'.flatMap (·.c)++sp) tE))∧Fr (ab (ρ 0).A).toList w w':=by
  cases hem:em with
  |nil=>
   rw[←hem];exact key (fun x=>x=default) (fun x hx=>by rw[hem]at hx;cases hx) default rfl (fun x y hx hy _ _=>by rw[hx,hy])
  |cons e0 r=>
   rw[←hem];exact key (fun x=>x∈em) (fun x hx=>hx) e0 (by rw[hem];simp) (fun x y hx hy=>hT _ (by rw[←e1];exact List.mem_map_of_mem hx) _ (by rw[←e1];exact List.mem_map_of_mem hy))
 refine main.mono ?_;rintro v w' ⟨rfl,em',b1,b2,b3,b4⟩;have hlen:em.length=(bk g l).length:=by rw[dr,e2]
 rw[hlen]at b2;obtain⟨ρ',a2,a3⟩:=IJ (el:=tE) M hl hm0 b4 (dr ..) (by have:=i7 em';rw[b1]at this;exact this) b2 b3;exact⟨_,_,ρ',hK,⟨[],rfl,rfl⟩,a2,a3⟩
end
end Go.Proofs.YtmpeiadlohbikaaGreatDoor.V
end

section
namespace Go.Proofs
open Go.Shelf
def Tryz.laysM219_ren:Go.Shelf.Ren:=⟨fun|219=>229|217=>239|225=>240|224=>241|267=>242|266=>245|314=>246|n=>n,fun|9=>9|3=>3|4=>4|5=>5|46=>216|146=>325|51=>28|n=>n,fun|1=>0|n=>n⟩
theorem Tryz.laysM219:Go.Proofs.LaysM.n219 Tryz.prog Tryz.laysM219_ren:={
 mixed:=by kernel_rfl
 f217:=Tryz.func239.trans (congrArg some (by kernel_rfl))
 f219:=Tryz.func229.trans (congrArg some (by kernel_rfl))
 f224:=Tryz.func241.trans (congrArg some (by kernel_rfl))
 f225:=Tryz.func240.trans (congrArg some (by kernel_rfl))
 f266:=Tryz.func245.trans (congrArg some (by kernel_rfl))
 f267:=Tryz.func242.trans (congrArg some (by kernel_rfl))
 f314:=Tryz.func246.trans (congrArg some (by kernel_rfl))
 t3:=Tryz.underlying3
 a3:=Tryz.isAgg3
 z3:=Tryz.sizeOf3
 v3:=Tryz.zeroValue3
 t4:=Tryz.underlying4
 a4:=Tryz.isAgg4
 z4:=Tryz.sizeOf4
 v4:=Tryz.zeroValue4
 t5:=Tryz.underlying5
 a5:=Tryz.isAgg5
 z5:=Tryz.sizeOf5
 v5:=Tryz.zeroValue5
 t9:=Tryz.underlying9
 a9:=Tryz.isAgg9
 z9:=Tryz.sizeOf9
 v9:=Tryz.zeroValue9
 t46:=Tryz.underlying216
 a46:=Tryz.isAgg216
 z46:=Tryz.sizeOf216
 v46:=Tryz.zeroValue216
 t51:=Tryz.underlying28
 a51:=Tryz.isAgg28
 z51:=Tryz.sizeOf28
 v51:=Tryz.zeroValue28
 t146:=Tryz.underlying325
 a146:=Tryz.isAgg325
 z146:=Tryz.sizeOf325
 v146:=Tryz.zeroValue325
 g1:=by kernel_rfl
 i3:=by kernel_rfl
 i4:=by kernel_rfl
 i5:=by kernel_rfl
 i9:=by kernel_rfl
 i46:=by kernel_rfl
 i51:=by kernel_rfl
 i146:=by kernel_rfl
 m1:=by kernel_rfl
 s1_3:=fun w h=>Go.Proofs.cell_of_shapedOpen_int (zero:= #[.int .i64 0]) (t:=3) h (of_decide_eq_true (by kernel_rfl)) (by kernel_rfl) rfl (by kernel_rfl) (by kernel_rfl) Tryz.underlying3}
def Tryz.lays190_ren:Go.Shelf.Ren:=⟨fun|190=>118|125=>116|258=>174|128=>172|129=>173|302=>202|303=>203|304=>204|305=>205|306=>206|307=>207|308=>208|309=>209|310=>210|333=>231|329=>198|330=>199|334=>232|335=>233|336=>117|344=>243|n=>n,fun|31=>25|9=>9|3=>3|46=>216|0=>0|51=>28|53=>24|4=>4|183=>262|182=>261|131=>191|5=>5|218=>283|222=>287|228=>312|229=>101|n=>n,fun|n=>n⟩
theorem Tryz.lays190:Go.Proofs.Lays.n190 Tryz.prog Tryz.lays190_ren:={
 mixed:=by kernel_rfl
 f125:=Tryz.func116.trans (congrArg some (by kernel_rfl))
 f128:=Tryz.func172.trans (congrArg some (by kernel_rfl))
 f129:=Tryz.func173.trans (congrArg some (by kernel_rfl))
 f190:=Tryz.func118.trans (congrArg some (by kernel_rfl))
 f258:=Tryz.func174.trans (congrArg some (by kernel_rfl))
 f302:=Tryz.func202.trans (congrArg some (by kernel_rfl))
 f303:=Tryz.func203.trans (congrArg some (by kernel_rfl))
 f304:=Tryz.func204.trans (congrArg some (by kernel_rfl))
 f305:=Tryz.func205.trans (congrArg some (by kernel_rfl))
 f306:=Tryz.func206.trans (congrArg some (by kernel_rfl))
 f307:=Tryz.func207.trans (congrArg some (by kernel_rfl))
 f308:=Tryz.func208.trans (congrArg some (by kernel_rfl))
 f309:=Tryz.func209.trans (congrArg some (by kernel_rfl))
 f310:=Tryz.func210.trans (congrArg some (by kernel_rfl))
 f329:=Tryz.func198.trans (congrArg some (by kernel_rfl))
 f330:=Tryz.func199.trans (congrArg some (by kernel_rfl))
 f333:=Tryz.func231.trans (congrArg some (by kernel_rfl))
 f334:=Tryz.func232.trans (congrArg some (by kernel_rfl))
 f335:=Tryz.func233.trans (congrArg some (by kernel_rfl))
 f336:=Tryz.func117.trans (congrArg some (by kernel_rfl))
 f344:=Tryz.func243.trans (congrArg some (by kernel_rfl))
 t0:=Tryz.underlying0
 a0:=Tryz.isAgg0
 z0:=Tryz.sizeOf0
 v0:=Tryz.zeroValue0
 t3:=Tryz.underlying3
 a3:=Tryz.isAgg3
 z3:=Tryz.sizeOf3
 v3:=Tryz.zeroValue3
 t4:=Tryz.underlying4
 a4:=Tryz.isAgg4
 z4:=Tryz.sizeOf4
 v4:=Tryz.zeroValue4
 t5:=Tryz.underlying5
 a5:=Tryz.isAgg5
 z5:=Tryz.sizeOf5
 v5:=Tryz.zeroValue5
 t9:=Tryz.underlying9
 a9:=Tryz.isAgg9
 z9:=Tryz.sizeOf9
 v9:=Tryz.zeroValue9
 t31:=Tryz.underlying25
 a31:=Tryz.isAgg25
 z31:=Tryz.sizeOf25
 v31:=Tryz.zeroValue25
 t46:=Tryz.underlying216
 a46:=Tryz.isAgg216
 z46:=Tryz.sizeOf216
 v46:=Tryz.zeroValue216
 t51:=Tryz.underlying28
 a51:=Tryz.isAgg28
 z51:=Tryz.sizeOf28
 v51:=Tryz.zeroValue28
 t53:=Tryz.underlying24
 a53:=Tryz.isAgg24
 z53:=Tryz.sizeOf24
 v53:=Tryz.zeroValue24
 t131:=Tryz.underlying191
 a131:=Tryz.isAgg191
 z131:=Tryz.sizeOf191
 v131:=Tryz.zeroValue191
 t182:=Tryz.underlying261
 a182:=Tryz.isAgg261
 z182:=Tryz.sizeOf261
 v182:=Tryz.zeroValue261
 t183:=Tryz.underlying262
 a183:=Tryz.isAgg262
 z183:=Tryz.sizeOf262
 v183:=Tryz.zeroValue262
 t218:=Tryz.underlying283
 a218:=Tryz.isAgg283
 z218:=Tryz.sizeOf283
 v218:=Tryz.zeroValue283
 t222:=Tryz.underlying287
 a222:=Tryz.isAgg287
 z222:=Tryz.sizeOf287
 v222:=Tryz.zeroValue287
 t228:=Tryz.underlying312
 a228:=Tryz.isAgg312
 z228:=Tryz.sizeOf312
 v228:=Tryz.zeroValue312
 t229:=Tryz.underlying101
 a229:=Tryz.isAgg101
 z229:=Tryz.sizeOf101
 v229:=Tryz.zeroValue101}
open Go.Sort Go.RowKit in
theorem Tryz.slices_Sort_string(blk off cap:Nat)(ss:List (List UInt8))(w:World)(hH:Holds encStr w blk off ss.toArray)(hblk:blk<w.heap.size)(hsz:ss.length<4611686018427387904):
  Calls Tryz.prog 118 #[.slice (some ⟨blk,off,none⟩) ss.length cap] w fun e w'=>
   e= .returned (.tuple #[])∧ ∃n os,w'=grow (putRow encStr (Sort.ahead w n) blk off (ss.mergeSort fun x y=>decide (x≤y)).toArray) os:=Any.slices_Sort_string Tryz.lays190 blk off cap ss w hH hblk hsz
def Tryz.lays146_ren:Go.Shelf.Ren:=⟨fun|146=>104|221=>160|268=>194|138=>195|143=>196|195=>226|197=>227|218=>228|219=>229|260=>238|217=>239|225=>240|224=>241|267=>242|266=>245|314=>246|n=>n,fun|9=>9|31=>25|3=>3|4=>4|0=>0|105=>309|21=>21|5=>5|46=>216|119=>321|139=>324|138=>323|146=>325|51=>28|n=>n,fun|1=>0|3=>1|4=>2|n=>n⟩
theorem Tryz.lays146:Go.Proofs.Lays.n146 Tryz.prog Tryz.lays146_ren:={
 mixed:=by kernel_rfl
 f138:=Tryz.func195.trans (congrArg some (by kernel_rfl))
 f143:=Tryz.func196.trans (congrArg some (by kernel_rfl))
 f146:=Tryz.func104.trans (congrArg some (by kernel_rfl))
 f195:=Tryz.func226.trans (congrArg some (by kernel_rfl))
 f197:=Tryz.func227.trans (congrArg some (by kernel_rfl))
 f217:=Tryz.func239.trans (congrArg some (by kernel_rfl))
 f218:=Tryz.func228.trans (congrArg some (by kernel_rfl))
 f219:=Tryz.func229.trans (congrArg some (by kernel_rfl))
 f221:=Tryz.func160.trans (congrArg some (by kernel_rfl))
 f224:=Tryz.func241.trans (congrArg some (by kernel_rfl))
 f225:=Tryz.func240.trans (congrArg some (by kernel_rfl))
 f260:=Tryz.func238.trans (congrArg some (by kernel_rfl))
 f266:=Tryz.func245.trans (congrArg some (by kernel_rfl))
 f267:=Tryz.func242.trans (congrArg some (by kernel_rfl))
 f268:=Tryz.func194.trans (congrArg some (by kernel_rfl))
 f314:=Tryz.func246.trans (congrArg some (by kernel_rfl))
 t0:=Tryz.underlying0
 a0:=Tryz.isAgg0
 z0:=Tryz.sizeOf0
 v0:=Tryz.zeroValue0
 t3:=Tryz.underlying3
 a3:=Tryz.isAgg3
 z3:=Tryz.sizeOf3
 v3:=Tryz.zeroValue3
 t4:=Tryz.underlying4
 a4:=Tryz.isAgg4
 z4:=Tryz.sizeOf4
 v4:=Tryz.zeroValue4
 t5:=Tryz.underlying5
 a5:=Tryz.isAgg5
 z5:=Tryz.sizeOf5
 v5:=Tryz.zeroValue5
 t9:=Tryz.underlying9
 a9:=Tryz.isAgg9
 z9:=Tryz.sizeOf9
 v9:=Tryz.zeroValue9
 t21:=Tryz.underlying21
 a21:=Tryz.isAgg21
 z21:=Tryz.sizeOf21
 v21:=Tryz.zeroValue21
 t31:=Tryz.underlying25
 a31:=Tryz.isAgg25
 z31:=Tryz.sizeOf25
 v31:=Tryz.zeroValue25
 t46:=Tryz.underlying216
 a46:=Tryz.isAgg216
 z46:=Tryz.sizeOf216
 v46:=Tryz.zeroValue216
 t51:=Tryz.underlying28
 a51:=Tryz.isAgg28
 z51:=Tryz.sizeOf28
 v51:=Tryz.zeroValue28
 t105:=Tryz.underlying309
 a105:=Tryz.isAgg309
 z105:=Tryz.sizeOf309
 v105:=Tryz.zeroValue309
 t119:=Tryz.underlying321
 a119:=Tryz.isAgg321
 z119:=Tryz.sizeOf321
 t138:=Tryz.underlying323
 a138:=Tryz.isAgg323
 z138:=Tryz.sizeOf323
 v138:=Tryz.zeroValue323
 t139:=Tryz.underlying324
 a139:=Tryz.isAgg324
 z139:=Tryz.sizeOf324
 v139:=Tryz.zeroValue324
 t146:=Tryz.underlying325
 a146:=Tryz.isAgg325
 z146:=Tryz.sizeOf325
 v146:=Tryz.zeroValue325
 g1:=by kernel_rfl
 g3:=by kernel_rfl
 g4:=by kernel_rfl}
open Go.RowKit Go.Lib in
theorem Tryz.strings_Split(s sep:ByteArray)(m:Int)(w:World)(hs:s.size<4294967281)(hm:w.cell? ⟨0,0,none⟩=some (.int .i64 m))(h1:1≤sep.size):
  Calls Tryz.prog 104 #[.string s,.string sep] w fun e w'=>
   e= .returned (.slice (some ⟨w.heap.size,0,none⟩) (Lib.countB s sep+1) (Lib.countB s sep+1))∧w'=w.alloc (.cells ((Lib.splitB sep 0 (Lib.countB s sep) s).map Value.string).toArray 9):=Any.strings_Split Tryz.lays146 (by kernel_rfl) s sep m w hs hm h1
open Go.RowKit Go.Sort in
theorem Tryz.slices_Sort_string_none(p:Option Addr)(cap:Nat)(w:World):
  Calls Tryz.prog 118 #[.slice p 0 cap] w fun e w'=>e= .returned (.tuple #[])∧w'=w:=Any.slices_Sort_string_none Tryz.lays190 p cap w
def Tryz.laysSortTag_ren:Go.Shelf.Ren:=⟨fun|6=>91|15=>116|14=>154|28=>172|29=>173|20=>185|21=>186|22=>187|23=>188|24=>189|25=>190|26=>191|27=>192|46=>222|47=>198|48=>199|49=>223|50=>224|57=>237|n=>n,fun|22=>36|24=>61|25=>181|3=>3|39=>216|0=>0|53=>28|55=>24|4=>4|46=>262|45=>261|50=>191|5=>5|9=>9|66=>283|70=>287|76=>312|77=>101|n=>n,fun|n=>n⟩
theorem Tryz.laysSortTag:Go.Proofs.SlLaysF0.n6 Tryz.prog Tryz.laysSortTag_ren:={
 mixed:=by kernel_rfl
 f6:=⟨Tryz.f91.name,by decide,Tryz.func91.trans (congrArg some (by kernel_rfl))⟩
 f14:=⟨Tryz.f154.name,by decide,Tryz.func154.trans (congrArg some (by kernel_rfl))⟩
 f15:=Tryz.func116.trans (congrArg some (by kernel_rfl))
 f20:=⟨Tryz.f185.name,by decide,Tryz.func185.trans (congrArg some (by kernel_rfl))⟩
 f21:=⟨Tryz.f186.name,by decide,Tryz.func186.trans (congrArg some (by kernel_rfl))⟩
 f22:=⟨Tryz.f187.name,by decide,Tryz.func187.trans (congrArg some (by kernel_rfl))⟩
 f23:=⟨Tryz.f188.name,by decide,Tryz.func188.trans (congrArg some (by kernel_rfl))⟩
 f24:=⟨Tryz.f189.name,by decide,Tryz.func189.trans (congrArg some (by kernel_rfl))⟩
 f25:=⟨Tryz.f190.name,by decide,Tryz.func190.trans (congrArg some (by kernel_rfl))⟩
 f26:=⟨Tryz.f191.name,by decide,Tryz.func191.trans (congrArg some (by kernel_rfl))⟩
 f27:=⟨Tryz.f192.name,by decide,Tryz.func192.trans (congrArg some (by kernel_rfl))⟩
 f28:=Tryz.func172.trans (congrArg some (by kernel_rfl))
 f29:=Tryz.func173.trans (congrArg some (by kernel_rfl))
 f46:=⟨Tryz.f222.name,by decide,Tryz.func222.trans (congrArg some (by kernel_rfl))⟩
 f47:=Tryz.func198.trans (congrArg some (by kernel_rfl))
 f48:=Tryz.func199.trans (congrArg some (by kernel_rfl))
 f49:=⟨Tryz.f223.name,by decide,Tryz.func223.trans (congrArg some (by kernel_rfl))⟩
 f50:=⟨Tryz.f224.name,by decide,Tryz.func224.trans (congrArg some (by kernel_rfl))⟩
 f57:=⟨Tryz.f237.name,by decide,Tryz.func237.trans (congrArg some (by kernel_rfl))⟩
 t0:=Tryz.underlying0
 a0:=Tryz.isAgg0
 z0:=Tryz.sizeOf0
 v0:=Tryz.zeroValue0
 t3:=Tryz.underlying3
 a3:=Tryz.isAgg3
 z3:=Tryz.sizeOf3
 v3:=Tryz.zeroValue3
 t4:=Tryz.underlying4
 a4:=Tryz.isAgg4
 z4:=Tryz.sizeOf4
 v4:=Tryz.zeroValue4
 t5:=Tryz.underlying5
 a5:=Tryz.isAgg5
 z5:=Tryz.sizeOf5
 v5:=Tryz.zeroValue5
 t9:=Tryz.underlying9
 a9:=Tryz.isAgg9
 z9:=Tryz.sizeOf9
 v9:=Tryz.zeroValue9
 t22:=Tryz.underlying36
 a22:=Tryz.isAgg36
 z22:=Tryz.sizeOf36
 v22:=Tryz.zeroValue36
 t25:=Tryz.underlying181
 a25:=Tryz.isAgg181
 z25:=Tryz.sizeOf181
 v25:=Tryz.zeroValue181
 t39:=Tryz.underlying216
 a39:=Tryz.isAgg216
 z39:=Tryz.sizeOf216
 v39:=Tryz.zeroValue216
 t45:=Tryz.underlying261
 a45:=Tryz.isAgg261
 z45:=Tryz.sizeOf261
 v45:=Tryz.zeroValue261
 t46:=Tryz.underlying262
 a46:=Tryz.isAgg262
 z46:=Tryz.sizeOf262
 v46:=Tryz.zeroValue262
 t50:=Tryz.underlying191
 a50:=Tryz.isAgg191
 z50:=Tryz.sizeOf191
 v50:=Tryz.zeroValue191
 t53:=Tryz.underlying28
 a53:=Tryz.isAgg28
 z53:=Tryz.sizeOf28
 v53:=Tryz.zeroValue28
 t55:=Tryz.underlying24
 a55:=Tryz.isAgg24
 z55:=Tryz.sizeOf24
 v55:=Tryz.zeroValue24
 t66:=Tryz.underlying283
 a66:=Tryz.isAgg283
 z66:=Tryz.sizeOf283
 v66:=Tryz.zeroValue283
 t70:=Tryz.underlying287
 a70:=Tryz.isAgg287
 z70:=Tryz.sizeOf287
 v70:=Tryz.zeroValue287
 t76:=Tryz.underlying312
 a76:=Tryz.isAgg312
 z76:=Tryz.sizeOf312
 v76:=Tryz.zeroValue312
 t77:=Tryz.underlying101
 a77:=Tryz.isAgg101
 z77:=Tryz.sizeOf101
 v77:=Tryz.zeroValue101}
def Tryz.laysSortItem_ren:Go.Shelf.Ren:=⟨fun|6=>46|15=>116|14=>115|28=>172|29=>173|20=>164|21=>165|22=>166|23=>167|24=>168|25=>169|26=>170|27=>171|46=>197|47=>198|48=>199|49=>200|50=>201|57=>230|n=>n,fun|22=>73|24=>144|25=>147|3=>3|39=>216|0=>0|53=>28|55=>24|4=>4|46=>262|45=>261|50=>191|5=>5|9=>9|66=>283|70=>287|76=>312|77=>101|n=>n,fun|n=>n⟩
theorem Tryz.laysSortItem:Go.Proofs.SlLaysF0.n6 Tryz.prog Tryz.laysSortItem_ren:={
 mixed:=by kernel_rfl
 f6:=⟨Tryz.f46.name,by decide,Tryz.func46.trans (congrArg some (by kernel_rfl))⟩
 f14:=⟨Tryz.f115.name,by decide,Tryz.func115.trans (congrArg some (by kernel_rfl))⟩
 f15:=Tryz.func116.trans (congrArg some (by kernel_rfl))
 f20:=⟨Tryz.f164.name,by decide,Tryz.func164.trans (congrArg some (by kernel_rfl))⟩
 f21:=⟨Tryz.f165.name,by decide,Tryz.func165.trans (congrArg some (by kernel_rfl))⟩
 f22:=⟨Tryz.f166.name,by decide,Tryz.func166.trans (congrArg some (by kernel_rfl))⟩
 f23:=⟨Tryz.f167.name,by decide,Tryz.func167.trans (congrArg some (by kernel_rfl))⟩
 f24:=⟨Tryz.f168.name,by decide,Tryz.func168.trans (congrArg some (by kernel_rfl))⟩
 f25:=⟨Tryz.f169.name,by decide,Tryz.func169.trans (congrArg some (by kernel_rfl))⟩
 f26:=⟨Tryz.f170.name,by decide,Tryz.func170.trans (congrArg some (by kernel_rfl))⟩
 f27:=⟨Tryz.f171.name,by decide,Tryz.func171.trans (congrArg some (by kernel_rfl))⟩
 f28:=Tryz.func172.trans (congrArg some (by kernel_rfl))
 f29:=Tryz.func173.trans (congrArg some (by kernel_rfl))
 f46:=⟨Tryz.f197.name,by decide,Tryz.func197.trans (congrArg some (by kernel_rfl))⟩
 f47:=Tryz.func198.trans (congrArg some (by kernel_rfl))
 f48:=Tryz.func199.trans (congrArg some (by kernel_rfl))
 f49:=⟨Tryz.f200.name,by decide,Tryz.func200.trans (congrArg some (by kernel_rfl))⟩
 f50:=⟨Tryz.f201.name,by decide,Tryz.func201.trans (congrArg some (by kernel_rfl))⟩
 f57:=⟨Tryz.f230.name,by decide,Tryz.func230.trans (congrArg some (by kernel_rfl))⟩
 t0:=Tryz.underlying0
 a0:=Tryz.isAgg0
 z0:=Tryz.sizeOf0
 v0:=Tryz.zeroValue0
 t3:=Tryz.underlying3
 a3:=Tryz.isAgg3
 z3:=Tryz.sizeOf3
 v3:=Tryz.zeroValue3
 t4:=Tryz.underlying4
 a4:=Tryz.isAgg4
 z4:=Tryz.sizeOf4
 v4:=Tryz.zeroValue4
 t5:=Tryz.underlying5
 a5:=Tryz.isAgg5
 z5:=Tryz.sizeOf5
 v5:=Tryz.zeroValue5
 t9:=Tryz.underlying9
 a9:=Tryz.isAgg9
 z9:=Tryz.sizeOf9
 v9:=Tryz.zeroValue9
 t22:=Tryz.underlying73
 a22:=Tryz.isAgg73
 z22:=Tryz.sizeOf73
 v22:=Tryz.zeroValue73
 t25:=Tryz.underlying147
 a25:=Tryz.isAgg147
 z25:=Tryz.sizeOf147
 v25:=Tryz.zeroValue147
 t39:=Tryz.underlying216
 a39:=Tryz.isAgg216
 z39:=Tryz.sizeOf216
 v39:=Tryz.zeroValue216
 t45:=Tryz.underlying261
 a45:=Tryz.isAgg261
 z45:=Tryz.sizeOf261
 v45:=Tryz.zeroValue261
 t46:=Tryz.underlying262
 a46:=Tryz.isAgg262
 z46:=Tryz.sizeOf262
 v46:=Tryz.zeroValue262
 t50:=Tryz.underlying191
 a50:=Tryz.isAgg191
 z50:=Tryz.sizeOf191
 v50:=Tryz.zeroValue191
 t53:=Tryz.underlying28
 a53:=Tryz.isAgg28
 z53:=Tryz.sizeOf28
 v53:=Tryz.zeroValue28
 t55:=Tryz.underlying24
 a55:=Tryz.isAgg24
 z55:=Tryz.sizeOf24
 v55:=Tryz.zeroValue24
 t66:=Tryz.underlying283
 a66:=Tryz.isAgg283
 z66:=Tryz.sizeOf283
 v66:=Tryz.zeroValue283
 t70:=Tryz.underlying287
 a70:=Tryz.isAgg287
 z70:=Tryz.sizeOf287
 v70:=Tryz.zeroValue287
 t76:=Tryz.underlying312
 a76:=Tryz.isAgg312
 z76:=Tryz.sizeOf312
 v76:=Tryz.zeroValue312
 t77:=Tryz.underlying101
 a77:=Tryz.isAgg101
 z77:=Tryz.sizeOf101
 v77:=Tryz.zeroValue101}
def Tryz.laysSortRec_ren:Go.Shelf.Ren:=⟨fun|6=>126|15=>116|14=>176|28=>172|29=>173|20=>211|21=>212|22=>213|23=>214|24=>215|25=>216|26=>217|27=>218|46=>234|47=>198|48=>199|49=>235|50=>236|57=>244|n=>n,fun|22=>91|24=>110|25=>161|3=>3|39=>216|0=>0|53=>28|55=>24|4=>4|46=>262|45=>261|50=>191|5=>5|9=>9|66=>283|70=>287|76=>312|77=>101|n=>n,fun|n=>n⟩
theorem Tryz.laysSortRec:Go.Proofs.SlLaysF0.n6 Tryz.prog Tryz.laysSortRec_ren:={
 mixed:=by kernel_rfl
 f6:=⟨Tryz.f126.name,by decide,Tryz.func126.trans (congrArg some (by kernel_rfl))⟩
 f14:=⟨Tryz.f176.name,by decide,Tryz.func176.trans (congrArg some (by kernel_rfl))⟩
 f15:=Tryz.func116.trans (congrArg some (by kernel_rfl))
 f20:=⟨Tryz.f211.name,by decide,Tryz.func211.trans (congrArg some (by kernel_rfl))⟩
 f21:=⟨Tryz.f212.name,by decide,Tryz.func212.trans (congrArg some (by kernel_rfl))⟩
 f22:=⟨Tryz.f213.name,by decide,Tryz.func213.trans (congrArg some (by kernel_rfl))⟩
 f23:=⟨Tryz.f214.name,by decide,Tryz.func214.trans (congrArg some (by kernel_rfl))⟩
 f24:=⟨Tryz.f215.name,by decide,Tryz.func215.trans (congrArg some (by kernel_rfl))⟩
 f25:=⟨Tryz.f216.name,by decide,Tryz.func216.trans (congrArg some (by kernel_rfl))⟩
 f26:=⟨Tryz.f217.name,by decide,Tryz.func217.trans (congrArg some (by kernel_rfl))⟩
 f27:=⟨Tryz.f218.name,by decide,Tryz.func218.trans (congrArg some (by kernel_rfl))⟩
 f28:=Tryz.func172.trans (congrArg some (by kernel_rfl))
 f29:=Tryz.func173.trans (congrArg some (by kernel_rfl))
 f46:=⟨Tryz.f234.name,by decide,Tryz.func234.trans (congrArg some (by kernel_rfl))⟩
 f47:=Tryz.func198.trans (congrArg some (by kernel_rfl))
 f48:=Tryz.func199.trans (congrArg some (by kernel_rfl))
 f49:=⟨Tryz.f235.name,by decide,Tryz.func235.trans (congrArg some (by kernel_rfl))⟩
 f50:=⟨Tryz.f236.name,by decide,Tryz.func236.trans (congrArg some (by kernel_rfl))⟩
 f57:=⟨Tryz.f244.name,by decide,Tryz.func244.trans (congrArg some (by kernel_rfl))⟩
 t0:=Tryz.underlying0
 a0:=Tryz.isAgg0
 z0:=Tryz.sizeOf0
 v0:=Tryz.zeroValue0
 t3:=Tryz.underlying3
 a3:=Tryz.isAgg3
 z3:=Tryz.sizeOf3
 v3:=Tryz.zeroValue3
 t4:=Tryz.underlying4
 a4:=Tryz.isAgg4
 z4:=Tryz.sizeOf4
 v4:=Tryz.zeroValue4
 t5:=Tryz.underlying5
 a5:=Tryz.isAgg5
 z5:=Tryz.sizeOf5
 v5:=Tryz.zeroValue5
 t9:=Tryz.underlying9
 a9:=Tryz.isAgg9
 z9:=Tryz.sizeOf9
 v9:=Tryz.zeroValue9
 t22:=Tryz.underlying91
 a22:=Tryz.isAgg91
 z22:=Tryz.sizeOf91
 v22:=Tryz.zeroValue91
 t25:=Tryz.underlying161
 a25:=Tryz.isAgg161
 z25:=Tryz.sizeOf161
 v25:=Tryz.zeroValue161
 t39:=Tryz.underlying216
 a39:=Tryz.isAgg216
 z39:=Tryz.sizeOf216
 v39:=Tryz.zeroValue216
 t45:=Tryz.underlying261
 a45:=Tryz.isAgg261
 z45:=Tryz.sizeOf261
 v45:=Tryz.zeroValue261
 t46:=Tryz.underlying262
 a46:=Tryz.isAgg262
 z46:=Tryz.sizeOf262
 v46:=Tryz.zeroValue262
 t50:=Tryz.underlying191
 a50:=Tryz.isAgg191
 z50:=Tryz.sizeOf191
 v50:=Tryz.zeroValue191
 t53:=Tryz.underlying28
 a53:=Tryz.isAgg28
 z53:=Tryz.sizeOf28
 v53:=Tryz.zeroValue28
 t55:=Tryz.underlying24
 a55:=Tryz.isAgg24
 z55:=Tryz.sizeOf24
 v55:=Tryz.zeroValue24
 t66:=Tryz.underlying283
 a66:=Tryz.isAgg283
 z66:=Tryz.sizeOf283
 v66:=Tryz.zeroValue283
 t70:=Tryz.underlying287
 a70:=Tryz.isAgg287
 z70:=Tryz.sizeOf287
 v70:=Tryz.zeroValue287
 t76:=Tryz.underlying312
 a76:=Tryz.isAgg312
 z76:=Tryz.sizeOf312
 v76:=Tryz.zeroValue312
 t77:=Tryz.underlying101
 a77:=Tryz.isAgg101
 z77:=Tryz.sizeOf101
 v77:=Tryz.zeroValue101}
end Go.Proofs
end

section
set_option linter.unusedVariables false
set_option linter.unusedSimpArgs false
namespace Go.Proofs.YtmpeiadlohbikaaGreatDoor
open Go.RowKit
open Go.ChangeMaps (setBlock)
theorem Fr.setBlockR(w:World)(g:Nat)(o:Obj):Fr [g] w (setBlock w g o):=⟨rfl,rfl,rfl,by simp[Go.ChangeMaps.setBlock],fun k _ hk=>by
 show(w.heap.setIfInBounds g o)[k]? =_
 rw[Array.getElem?_setIfInBounds_ne (fun e=>hk (by simp[e]))],Nat.le_refl _⟩
theorem sV{w:World}{g:Nat}{o:Obj}(h:g<w.heap.size):(setBlock w g o).heap[g]? =some o:=by
 show(w.heap.setIfInBounds g o)[g]? =_
 rw[Array.getElem?_setIfInBounds_self_of_lt h]
def yF(s:List UInt8)(pos:Int):Int:=((Utf8.decode ⟨s.toArray⟩ pos.toNat).1:Int)
def sW(s:List UInt8)(pos:Int):Int:=((Utf8.decode ⟨s.toArray⟩ pos.toNat).2:Int)
theorem pY(s:List UInt8)(pos:Int):1≤sW s pos:=by
 have:=Lib.width_pos ⟨s.toArray⟩ pos.toNat;unfold sW;omega
section
variable [bB] {P:Program} {n:Nat} {env:aI} {w:World} {o:Oper} {K:aI→World→Prop} {H:bZ} {s:List UInt8}
theorem A8{t d:Nat}{x:Operand}(ho:o.op= .range t x)(hd:o.dst=some d)(hn:Nat.blt d n=true)(hx:env.ev x=some (sv s))(ht:P.underlying t=some .string)(h:Hp w H)
  (hK: ∀r w',Hp w' (H++ [(some r,.stringIter ⟨s.toArray⟩ 0)])→Fr [] w w'→w.heap.size≤r→K ((d,.pointer (some ⟨r,0,none⟩))::env) w'):bH P n env w o K:=by
 refine fI hd hn (fun a r=>?_) (hK w.heap.size (w.alloc (.stringIter ⟨s.toArray⟩ 0)) (h.alloc _) (Fr.alloc w _) (Nat.le_refl _));unfold execOp;have:=run_range_string (P:=P) w t ⟨s.toArray⟩ ht;simp only[ho,r.eval hx,sv,Sem.run_bind,this,Result.andThen_ok];rfl
theorem ED{r ir d:Nat}{pos:Int}{x:Operand}(ho:o.op= .next x true)(hd:o.dst=some d)(hn:Nat.blt d n=true)(hx:env.ev x=some (.pointer (some ⟨r,0,none⟩)))(h:Hp w H)(hir:H[ir]? =some (some r,.stringIter ⟨s.toArray⟩ pos.toNat))(hp:0≤pos)
  (h0: ¬pos<s.length→K ((d,.tuple #[.bool false])::env) w)
  (h1: ∀w',pos<s.length→Hp w' (H.set ir (some r,.stringIter ⟨s.toArray⟩ (pos+sW s pos).toNat))→Fr [r] w w'→K ((d,.tuple #[.bool true,.int .i64 pos,.int .i32 (yF s pos)])::env) w'):bH P n env w o K:=by
 have hs:(⟨s.toArray⟩:ByteArray).size=s.length:=by simp[ByteArray.size]
 by_cases hc:pos<s.length
 ·have hr:=Lib.run_next_any_at (P:=P) w r ⟨s.toArray⟩ pos.toNat o.type (h.at hir) (by rw[hs];omega);have hw:=pY s pos;have e1:(pos+sW s pos).toNat=pos.toNat+(Utf8.decode ⟨s.toArray⟩ pos.toNat).2:=by unfold sW;omega
  have e2:((pos.toNat:Nat):Int)=pos:=by omega
  have hf:Fr [r] w (setBlock w r (.stringIter ⟨s.toArray⟩ (pos+sW s pos).toNat)):=Fr.setBlockR w r _;refine fI hd hn (fun a q=>?_) (h1 (setBlock w r (.stringIter ⟨s.toArray⟩ (pos+sW s pos).toNat)) hc (h.setAt hir hf (sV (cg (h.at hir)))) hf);unfold execOp;simp only[ho,q.eval hx,Sem.run_bind,hr,Result.andThen_ok];rw[e1,e2];rfl
 ·have hr:=Lib.run_next_end_at (P:=P) w r ⟨s.toArray⟩ pos.toNat o.type (h.at hir) (by rw[hs];omega);refine fI hd hn (fun a q=>?_) (h0 hc);unfold execOp;simp only[ho,q.eval hx,Sem.run_bind,hr,Result.andThen_ok];rfl
end
end Go.Proofs.YtmpeiadlohbikaaGreatDoor
end
