/- Ranges over functions: a call of yield, a round's body, the statement, and the functions that hold it. -/
import Derived.Test.YtiliglahlfkikaaGreatDoorK16
import Derived.Shelf.Small.Bits
import Derived.Shelf.Utf8.RuneCount
import Derived.Shelf.Strconv.Itoa0
import Derived.Shelf.Strings.Search1
import Derived.Shelf.Strings.Search2
import Derived.Shelf.Strings.Search3
import Derived.Shelf.Strings.Count
import Derived.Shelf.LaysM
import Derived.Shelf.Strings.Shaped
import Derived.Shelf.Sort.Plain
import Derived.Shelf.GgClosure.StringsIndexFunc
import Derived.Ground.GgwProg
import Derived.Shelf.GgClosure.StringsIndexFuncTop
import Derived.Shelf.Strings.Split
import Derived.Shelf.Strings.SplitShaped
import Derived.Shelf.Unicode.Decode
import Derived.Shelf.Strings.RuneCount
import Derived.Shelf.Strings.Explode
import Derived.Shelf.Unicode.DecodeSlow
import Derived.Shelf.Unicode.DecodeAny
import Derived.Shelf.Strings.FuncGrows
import Derived.Shelf.Slices.In.SortNone
import Derived.Shelf.SlSortCmp.NoneTotal
import Derived.Shelf.SlGeneric
import Derived.Ground.SlsfProg
import Derived.Ground.SlmcProg
import Derived.Shelf.SlMaps.Clone
import Derived.Test.YtiliglahlfkikaaGreatDoorProg
import Derived.Test.YtiliglahlfkikaaGreatDoorK3
import Derived.Laws.RangeString
import Derived.Lib.OthersKept
import Derived.Lib.TrimU
import Derived.Maps.RangeRun
import Derived.Test.YtiliglahlfkikaaGreatDoorK14
import Derived.Test.YtiliglahlfkikaaGreatDoorK1
import Derived.RangeFuncKeeps
import Derived.Lib.AppendStr
import Derived.Lib.ConvBytes
section
set_option linter.unusedVariables false
set_option linter.unusedSimpArgs false
namespace Go.Proofs.YtiliglahlfkikaaGreatDoor.V
open Go.RowKit Go.Shelf Go.Lib Go.Sort
section
variable {U:cn} {P:Program} {ρs:Ren} {tE:Nat} {s:bm} {ei:TI U}
theorem oG{α β:Type}(p:α→Prop)(φ:α→List β): ∀(l:List α) (h: ∀x∈l,p x),(l.attachWith p h).flatMap (fun a=>φ a.1)=l.flatMap φ:=fun l h=>by
 conv=>rhs;rw[←List.attachWith_map_subtype_val (p:=p) (l:=l) h]
 rw[List.flatMap_map]
theorem oH{α β:Type}(p:α→Prop)(φ:α→β)(l:List α)(h: ∀x∈l,p x):(l.attachWith p h).map (fun a=>φ a.1)=l.map φ:=by
 conv=>rhs;rw[←List.attachWith_map_subtype_val (p:=p) (l:=l) h]
 rw[List.map_map];rfl
theorem x6{α β:Type}(φ:α→β)(g:β→β→Int)(l:List α):(bu (fun a b=>g (φ a) (φ b)) l).map φ=bu g (l.map φ):=by
 unfold bu;exact List.map_mergeSort (r:=fun x y=>!ltOf (fun a b=>g (φ a) (φ b)) y x) (s:=fun x y=>!(ltOf g) y x) (f:=φ) (fun a _ b _=>rfl)
def mo{α:Type}(l:List α)(g:α→α→Int):Prop:=SWO (ltOf g)∧ ∀x∈l,∀y∈l,ltOf g x y=false→ltOf g y x=false→x=y
def EO(U:cn)(s:bm)(tE:Nat):bf U:=⟨[.n,.f2 s s],fun xs es K=> ∃(l:List (TT U.ty s)) (g:TT U.ty s→TT U.ty s→Int),xs= [⟨false,[(1,.own 0 0)]⟩,⟨false,[(1,.f2 s s g)]⟩]∧es= [.row 0 s l tE]∧mo l g∧l.length<4611686018427387904∧K (.tup []) [.row 0 s (bu g l) tE]⟩
theorem z8 [ax]{X:List Nat}{w w1:World}{ρ:Nat→Rz}{H:Hs U}{g:TT U.ty s→TT U.ty s→Int}{f:FuncId}{ca:List Value}(hpr:ax.pr=P)(hag:fS s=true)(hv:yL U (aj ρ H++X) (· =w) (.func (.func f) #[] ca.toArray) s s g)(x y:Em U (aj ρ H++X) w s){O:List Nat}(hf:Fr O w w1)(hO: ∀y∈O,y∈aj ρ H)(xd: ∀g∈aj ρ H,g∉ax.xf)(hY: ∀z∈gB,z∈aj ρ H++X):
  Fn P f ([.agg x.c.toArray,.agg y.c.toArray]++ca) w1 fun v w2=>v= .int .i64 (g x.x y.x)∧Fr [] w1 w2:=by
 have mv:Mv (aj ρ H++X) (· =w) (aj ρ H++X) (· =w1):=fun w2 h2=>⟨w,O,rfl,by subst h2;exact hf,fun y hy=>⟨List.mem_append_left _ (hO y hy),xd y (hO y hy)⟩,fun y hy=> .inl hy⟩;have h1:=yL.call (v:= .agg x.c.toArray) (v':= .agg y.c.toArray) (hv.mv mv) hY (t:=x.x) (t':=y.x) (by simpa[Value.cells]using aK.mv mv x.den) (by unfold eN;rw[hag];simp[Value.cells]) (by simpa[Value.cells]using aK.mv mv y.den) (by unfold eN;rw[hag];simp[Value.cells]);rw[hpr]at h1;obtain⟨f',fi,ca',e,h2⟩:=h1;injection e with e1 e2 e3;injection e1 with e1;subst e1;have e2:fi= []:=by
  have:=congrArg Array.toList e2;simpa using this.symm
 have e3:ca=ca':=by
  have:=congrArg Array.toList e3;simpa using this
 subst e2;subst e3;exact Fn.mono h2 fun v w' ⟨a,_,b⟩=>⟨a,b⟩
theorem GN(L:SlLaysF0.n6 P ρs)(hen:bg P (ρs.f 6)=true)(hag:fS s=true)(ag:bB P (ρs.t 24)=some (aU U s))(sz:(P.info? (ρs.t 24)).map (·.size)=some (aU U s))(hti:bj U P tE ei)(hz: ∃z,dL 20 s ei.zero fun x=>x=z)(hm0:0<aU U s)
  (hfl: ∀(Y:List Nat) (w:World) (x:TT U.ty s) (c c':List Value),aK U Y (· =w) s x c→aK U Y (· =w) s x c'→c=c'):dY P U (ρs.f 6) (EO U s tE):=fun [F:ax] hpr X w ρ es0 xs vs K M hv hrun=>by
 obtain⟨l,g,rfl,rfl,⟨hO,hT⟩,hl62,hK⟩:=hrun;obtain⟨v,us,rfl,h1,v2,us2,rfl,h2,h3⟩:=hv;rw[show us2= []from h3];have hl:aL (aS 0 [aW.row 0 s l tE]) 0=some (.row 0 s l tE):=rfl;obtain⟨em,sp,hi,e1,e2,rfl,how0,hw⟩:=m9 M hl h1;obtain⟨I,hu⟩:=jI hti hz (aj ρ (aS 0 [aW.row 0 s l tE])++X) w;obtain⟨u',e,hv2⟩:=(show Vw U X w ρ 1 (aS 0 [aW.row 0 s l tE]) (.f2 s s g) [v2]from(co.one1 h2).1);injection e with e;subst e;obtain⟨f,ca,rfl⟩:=hv2.1;have dj: ∀g,ak (ρ 0).A=some g→g∉X:=fun g hg=>M.dj g (kB hl hg);have hkey: ∀cs,∀y∈keys [(ak (ρ 0).A,Cl cs tE)],y∈aj ρ (aS 0 [aW.row 0 s l tE]):=fun cs y hy=>by
  rw[gF]at hy;exact kB hl (by simpa using hy)
 have hen2:bg P f=true:=(z8 hpr hag hv2 (default:Em U (aj ρ (aS 0 [aW.row 0 s l tE])++X) w s) default (Fr.refl [] w) (fun y hy=>by cases hy) M.xd M.gY).1;have key: ∀(p:Em U (aj ρ (aS 0 [aW.row 0 s l tE])++X) w s→Prop) (hp: ∀x∈em,p x) (e0:Em U (aj ρ (aS 0 [aW.row 0 s l tE])++X) w s) (h0:p e0),(∀x y,p x→p y→ltOf g x.x y.x=false→ltOf g y.x x.x=false→x.x=y.x)→
   Fn P (ρs.f 6) [.slice (ρ 0).A em.length (ρ 0).c,.func (.func f) #[] ca.toArray] w fun v w'=>v= .tuple #[]∧ ∃em':List (Em U (aj ρ (aS 0 [aW.row 0 s l tE])++X) w s),em'.map (·.x)=bu g l∧Ow (ρ 0).A em.length (ρ 0).c (aU U s) (em'.flatMap (·.c)) sp∧(∀g,ak (ρ 0).A=some g→w'.heap[g]? =some (Cl (em'.flatMap (·.c)++sp) tE))∧Fr (ak (ρ 0).A).toList w w':=by
  intro p hp e0 h0 hT'
  haveI:Inhabited {x:Em U (aj ρ (aS 0 [aW.row 0 s l tE])++X) w s//p x}:=⟨⟨e0,h0⟩⟩
  have hfm:=oG p (fun e:Em U (aj ρ (aS 0 [aW.row 0 s l tE])++X) w s=>e.c) em hp;have hlen:(em.attachWith p hp).length=em.length:=List.length_attachWith;have hs:=HC (enc:=fun a:{x:Em U (aj ρ (aS 0 [aW.row 0 s l tE])++X) w s//p x}=>a.1.c) (k:=aU U s) (e:=tE) L (DB ag) (eC sz) (fun x=>x.1.hl) hm0 (fun x=>x.1.h1) (cf:=fun a b=>g a.1.x b.1.x)
   ⟨fun x=>hO.1 x.1.x,fun x y z=>hO.2 x.1.x y.1.x z.1.x,fun x y z=>hO.3 x.1.x y.1.x z.1.x⟩
   (fun x y h1 h2=>by
    have e:=hT' x.1 y.1 x.2 y.2 h1 h2;obtain⟨⟨x,c,d⟩,hx⟩:=x;obtain⟨⟨y,c',d'⟩,hy⟩:=y;simp only at e;subst e;have:=hfl _ _ _ _ _ d d';subst this;rfl) (g:=f) (cb:=ca) (wj hen2) hen X w (em.attachWith p hp) (by rw[hlen];omega) (ρ 0).A (ρ 0).c sp (by rw[hfm];exact qv (M.lo w rfl) hw dj) (by rw[hfm,hlen];exact how0)
   (fun w1 x y hf1=>z8 hpr hag hv2 x.1 y.1 hf1 (hkey _) M.xd M.gY)
  rw[hlen]at hs;refine hs.mono ?_;rintro v w' ⟨rfl,a1,a2,a3,a4⟩;refine⟨rfl,(bu (fun a b:{x:Em U (aj ρ (aS 0 [aW.row 0 s l tE])++X) w s//p x}=>g a.1.x b.1.x) (em.attachWith p hp)).map (·.1),?_,?_,fun g' hg'=>?_,?_⟩
  ·rw[List.map_map];have:=x6 (fun a:{x:Em U (aj ρ (aS 0 [aW.row 0 s l tE])++X) w s//p x}=>a.1.x) g (em.attachWith p hp);rw[show((fun x:Em U (aj ρ (aS 0 [aW.row 0 s l tE])++X) w s=>x.x)∘fun x:{x:Em U (aj ρ (aS 0 [aW.row 0 s l tE])++X) w s//p x}=>x.1)=fun a=>a.1.x from rfl,this];have h9:=oH p (fun e:Em U (aj ρ (aS 0 [aW.row 0 s l tE])++X) w s=>e.x) em hp;rw[h9,e1]
  ·rw[List.flatMap_map];exact a1
  ·rw[List.flatMap_map];exact a3.hp.at (i:=0) (by rw[hg'];rfl)
  ·rw[gF]at a4;exact a4
 have main:Fn P (ρs.f 6) [.slice (ρ 0).A em.length (ρ 0).c,.func (.func f) #[] ca.toArray] w fun v w'=>v= .tuple #[]∧ ∃em':List (Em U (aj ρ (aS 0 [aW.row 0 s l tE])++X) w s),em'.map (·.x)=bu g l∧Ow (ρ 0).A em.length (ρ 0).c (aU U s) (em'.flatMap (·.c)) sp∧(∀g,ak (ρ 0).A=some g→w'.heap[g]? =some (Cl (em'.flatMap (·.c)++sp) tE))∧Fr (ak (ρ 0).A).toList w w':=by
  cases hem:em with
  |nil=>
   rw[←hem];exact key (fun x=>x=default) (fun x hx=>by rw[hem]at hx;cases hx) default rfl (fun x y hx hy _ _=>by rw[hx,hy])
  |cons e0 r=>
   rw[←hem];exact key (fun x=>x∈em) (fun x hx=>hx) e0 (by rw[hem];simp) (fun x y hx hy=>hT _ (by rw[←e1];exact List.mem_map_of_mem hx) _ (by rw[←e1];exact List.mem_map_of_mem hy))
 refine main.mono ?_;rintro v w' ⟨rfl,em',b1,b2,b3,b4⟩;have hlen:em.length=(bu g l).length:=by rw[fJ,e2]
 rw[hlen]at b2;obtain⟨ρ',a2,a3⟩:=LU (el:=tE) M hl hm0 b4 (fJ ..) (by have:=mn em';rw[b1]at this;exact this) b2 b3;exact⟨_,_,ρ',hK,⟨[],rfl,rfl⟩,a2,a3⟩
end
end Go.Proofs.YtiliglahlfkikaaGreatDoor.V
end

section
namespace Go.Proofs
open Go.Shelf
def Tryz.laysM219_ren:Go.Shelf.Ren:=⟨fun|219=>219|217=>241|225=>242|224=>243|267=>244|266=>252|314=>253|n=>n,fun|9=>9|3=>3|4=>4|5=>5|46=>253|146=>320|51=>30|n=>n,fun|1=>0|n=>n⟩
theorem Tryz.laysM219:Go.Proofs.LaysM.n219 Tryz.prog Tryz.laysM219_ren:={
 mixed:=by kernel_rfl
 f217:=Tryz.func241.trans (congrArg some (by kernel_rfl))
 f219:=Tryz.func219.trans (congrArg some (by kernel_rfl))
 f224:=Tryz.func243.trans (congrArg some (by kernel_rfl))
 f225:=Tryz.func242.trans (congrArg some (by kernel_rfl))
 f266:=Tryz.func252.trans (congrArg some (by kernel_rfl))
 f267:=Tryz.func244.trans (congrArg some (by kernel_rfl))
 f314:=Tryz.func253.trans (congrArg some (by kernel_rfl))
 t3:=Tryz.underlying3
 a3:=Tryz.isAgg3
 z3:=Tryz.sizeOf3
 v3:=Tryz.zeroValue3
 t4:=Tryz.underlying4
 a4:=Tryz.isAgg4
 z4:=Tryz.sizeOf4
 v4:=Tryz.zeroValue4
 t5:=Tryz.underlying5
 a5:=Tryz.isAgg5
 z5:=Tryz.sizeOf5
 v5:=Tryz.zeroValue5
 t9:=Tryz.underlying9
 a9:=Tryz.isAgg9
 z9:=Tryz.sizeOf9
 v9:=Tryz.zeroValue9
 t46:=Tryz.underlying253
 a46:=Tryz.isAgg253
 z46:=Tryz.sizeOf253
 v46:=Tryz.zeroValue253
 t51:=Tryz.underlying30
 a51:=Tryz.isAgg30
 z51:=Tryz.sizeOf30
 v51:=Tryz.zeroValue30
 t146:=Tryz.underlying320
 a146:=Tryz.isAgg320
 z146:=Tryz.sizeOf320
 v146:=Tryz.zeroValue320
 g1:=by kernel_rfl
 i3:=by kernel_rfl
 i4:=by kernel_rfl
 i5:=by kernel_rfl
 i9:=by kernel_rfl
 i46:=by kernel_rfl
 i51:=by kernel_rfl
 i146:=by kernel_rfl
 m1:=by kernel_rfl
 s1_3:=fun w h=>Go.Proofs.cell_of_shapedOpen_int (zero:= #[.int .i64 0]) (t:=3) h (of_decide_eq_true (by kernel_rfl)) (by kernel_rfl) rfl (by kernel_rfl) (by kernel_rfl) Tryz.underlying3}
def Tryz.lays146_ren:Go.Shelf.Ren:=⟨fun|146=>67|221=>120|268=>178|138=>179|143=>180|195=>216|197=>217|218=>218|219=>219|260=>240|217=>241|225=>242|224=>243|267=>244|266=>252|314=>253|n=>n,fun|9=>9|31=>137|3=>3|4=>4|0=>0|105=>289|21=>21|5=>5|46=>253|119=>316|139=>319|138=>318|146=>320|51=>30|n=>n,fun|1=>0|3=>1|4=>2|n=>n⟩
theorem Tryz.lays146:Go.Proofs.Lays.n146 Tryz.prog Tryz.lays146_ren:={
 mixed:=by kernel_rfl
 f138:=Tryz.func179.trans (congrArg some (by kernel_rfl))
 f143:=Tryz.func180.trans (congrArg some (by kernel_rfl))
 f146:=Tryz.func67.trans (congrArg some (by kernel_rfl))
 f195:=Tryz.func216.trans (congrArg some (by kernel_rfl))
 f197:=Tryz.func217.trans (congrArg some (by kernel_rfl))
 f217:=Tryz.func241.trans (congrArg some (by kernel_rfl))
 f218:=Tryz.func218.trans (congrArg some (by kernel_rfl))
 f219:=Tryz.func219.trans (congrArg some (by kernel_rfl))
 f221:=Tryz.func120.trans (congrArg some (by kernel_rfl))
 f224:=Tryz.func243.trans (congrArg some (by kernel_rfl))
 f225:=Tryz.func242.trans (congrArg some (by kernel_rfl))
 f260:=Tryz.func240.trans (congrArg some (by kernel_rfl))
 f266:=Tryz.func252.trans (congrArg some (by kernel_rfl))
 f267:=Tryz.func244.trans (congrArg some (by kernel_rfl))
 f268:=Tryz.func178.trans (congrArg some (by kernel_rfl))
 f314:=Tryz.func253.trans (congrArg some (by kernel_rfl))
 t0:=Tryz.underlying0
 a0:=Tryz.isAgg0
 z0:=Tryz.sizeOf0
 v0:=Tryz.zeroValue0
 t3:=Tryz.underlying3
 a3:=Tryz.isAgg3
 z3:=Tryz.sizeOf3
 v3:=Tryz.zeroValue3
 t4:=Tryz.underlying4
 a4:=Tryz.isAgg4
 z4:=Tryz.sizeOf4
 v4:=Tryz.zeroValue4
 t5:=Tryz.underlying5
 a5:=Tryz.isAgg5
 z5:=Tryz.sizeOf5
 v5:=Tryz.zeroValue5
 t9:=Tryz.underlying9
 a9:=Tryz.isAgg9
 z9:=Tryz.sizeOf9
 v9:=Tryz.zeroValue9
 t21:=Tryz.underlying21
 a21:=Tryz.isAgg21
 z21:=Tryz.sizeOf21
 v21:=Tryz.zeroValue21
 t31:=Tryz.underlying137
 a31:=Tryz.isAgg137
 z31:=Tryz.sizeOf137
 v31:=Tryz.zeroValue137
 t46:=Tryz.underlying253
 a46:=Tryz.isAgg253
 z46:=Tryz.sizeOf253
 v46:=Tryz.zeroValue253
 t51:=Tryz.underlying30
 a51:=Tryz.isAgg30
 z51:=Tryz.sizeOf30
 v51:=Tryz.zeroValue30
 t105:=Tryz.underlying289
 a105:=Tryz.isAgg289
 z105:=Tryz.sizeOf289
 v105:=Tryz.zeroValue289
 t119:=Tryz.underlying316
 a119:=Tryz.isAgg316
 z119:=Tryz.sizeOf316
 t138:=Tryz.underlying318
 a138:=Tryz.isAgg318
 z138:=Tryz.sizeOf318
 v138:=Tryz.zeroValue318
 t139:=Tryz.underlying319
 a139:=Tryz.isAgg319
 z139:=Tryz.sizeOf319
 v139:=Tryz.zeroValue319
 t146:=Tryz.underlying320
 a146:=Tryz.isAgg320
 z146:=Tryz.sizeOf320
 v146:=Tryz.zeroValue320
 g1:=by kernel_rfl
 g3:=by kernel_rfl
 g4:=by kernel_rfl}
open Go.RowKit Go.Lib in
theorem Tryz.strings_Split(s sep:ByteArray)(m:Int)(w:World)(hs:s.size<4294967281)(hm:w.cell? ⟨0,0,none⟩=some (.int .i64 m))(h1:1≤sep.size):
  Calls Tryz.prog 67 #[.string s,.string sep] w fun e w'=>
   e= .returned (.slice (some ⟨w.heap.size,0,none⟩) (Lib.countB s sep+1) (Lib.countB s sep+1))∧w'=w.alloc (.cells ((Lib.splitB sep 0 (Lib.countB s sep) s).map Value.string).toArray 9):=Any.strings_Split Tryz.lays146 (by kernel_rfl) s sep m w hs hm h1
def Tryz.laysSortTag_ren:Go.Shelf.Ren:=⟨fun|6=>138|15=>173|14=>189|28=>206|29=>207|20=>223|21=>224|22=>225|23=>226|24=>227|25=>228|26=>229|27=>230|46=>246|47=>233|48=>234|49=>247|50=>248|57=>254|n=>n,fun|22=>37|24=>34|25=>114|3=>3|39=>253|0=>0|53=>30|55=>282|4=>4|46=>274|45=>273|50=>221|5=>5|9=>9|66=>300|70=>304|76=>312|77=>313|n=>n,fun|n=>n⟩
theorem Tryz.laysSortTag:Go.Proofs.SlLaysF0.n6 Tryz.prog Tryz.laysSortTag_ren:={
 mixed:=by kernel_rfl
 f6:=⟨Tryz.f138.name,by decide,Tryz.func138.trans (congrArg some (by kernel_rfl))⟩
 f14:=⟨Tryz.f189.name,by decide,Tryz.func189.trans (congrArg some (by kernel_rfl))⟩
 f15:=Tryz.func173.trans (congrArg some (by kernel_rfl))
 f20:=⟨Tryz.f223.name,by decide,Tryz.func223.trans (congrArg some (by kernel_rfl))⟩
 f21:=⟨Tryz.f224.name,by decide,Tryz.func224.trans (congrArg some (by kernel_rfl))⟩
 f22:=⟨Tryz.f225.name,by decide,Tryz.func225.trans (congrArg some (by kernel_rfl))⟩
 f23:=⟨Tryz.f226.name,by decide,Tryz.func226.trans (congrArg some (by kernel_rfl))⟩
 f24:=⟨Tryz.f227.name,by decide,Tryz.func227.trans (congrArg some (by kernel_rfl))⟩
 f25:=⟨Tryz.f228.name,by decide,Tryz.func228.trans (congrArg some (by kernel_rfl))⟩
 f26:=⟨Tryz.f229.name,by decide,Tryz.func229.trans (congrArg some (by kernel_rfl))⟩
 f27:=⟨Tryz.f230.name,by decide,Tryz.func230.trans (congrArg some (by kernel_rfl))⟩
 f28:=Tryz.func206.trans (congrArg some (by kernel_rfl))
 f29:=Tryz.func207.trans (congrArg some (by kernel_rfl))
 f46:=⟨Tryz.f246.name,by decide,Tryz.func246.trans (congrArg some (by kernel_rfl))⟩
 f47:=Tryz.func233.trans (congrArg some (by kernel_rfl))
 f48:=Tryz.func234.trans (congrArg some (by kernel_rfl))
 f49:=⟨Tryz.f247.name,by decide,Tryz.func247.trans (congrArg some (by kernel_rfl))⟩
 f50:=⟨Tryz.f248.name,by decide,Tryz.func248.trans (congrArg some (by kernel_rfl))⟩
 f57:=⟨Tryz.f254.name,by decide,Tryz.func254.trans (congrArg some (by kernel_rfl))⟩
 t0:=Tryz.underlying0
 a0:=Tryz.isAgg0
 z0:=Tryz.sizeOf0
 v0:=Tryz.zeroValue0
 t3:=Tryz.underlying3
 a3:=Tryz.isAgg3
 z3:=Tryz.sizeOf3
 v3:=Tryz.zeroValue3
 t4:=Tryz.underlying4
 a4:=Tryz.isAgg4
 z4:=Tryz.sizeOf4
 v4:=Tryz.zeroValue4
 t5:=Tryz.underlying5
 a5:=Tryz.isAgg5
 z5:=Tryz.sizeOf5
 v5:=Tryz.zeroValue5
 t9:=Tryz.underlying9
 a9:=Tryz.isAgg9
 z9:=Tryz.sizeOf9
 v9:=Tryz.zeroValue9
 t22:=Tryz.underlying37
 a22:=Tryz.isAgg37
 z22:=Tryz.sizeOf37
 v22:=Tryz.zeroValue37
 t25:=Tryz.underlying114
 a25:=Tryz.isAgg114
 z25:=Tryz.sizeOf114
 v25:=Tryz.zeroValue114
 t39:=Tryz.underlying253
 a39:=Tryz.isAgg253
 z39:=Tryz.sizeOf253
 v39:=Tryz.zeroValue253
 t45:=Tryz.underlying273
 a45:=Tryz.isAgg273
 z45:=Tryz.sizeOf273
 v45:=Tryz.zeroValue273
 t46:=Tryz.underlying274
 a46:=Tryz.isAgg274
 z46:=Tryz.sizeOf274
 v46:=Tryz.zeroValue274
 t50:=Tryz.underlying221
 a50:=Tryz.isAgg221
 z50:=Tryz.sizeOf221
 v50:=Tryz.zeroValue221
 t53:=Tryz.underlying30
 a53:=Tryz.isAgg30
 z53:=Tryz.sizeOf30
 v53:=Tryz.zeroValue30
 t55:=Tryz.underlying282
 a55:=Tryz.isAgg282
 z55:=Tryz.sizeOf282
 v55:=Tryz.zeroValue282
 t66:=Tryz.underlying300
 a66:=Tryz.isAgg300
 z66:=Tryz.sizeOf300
 v66:=Tryz.zeroValue300
 t70:=Tryz.underlying304
 a70:=Tryz.isAgg304
 z70:=Tryz.sizeOf304
 v70:=Tryz.zeroValue304
 t76:=Tryz.underlying312
 a76:=Tryz.isAgg312
 z76:=Tryz.sizeOf312
 v76:=Tryz.zeroValue312
 t77:=Tryz.underlying313
 a77:=Tryz.isAgg313
 z77:=Tryz.sizeOf313
 v77:=Tryz.zeroValue313}
def Tryz.laysCloneE_ren:Go.Shelf.Ren:=⟨fun|5=>58|7=>110|n=>n,fun|23=>106|25=>34|3=>47|4=>4|20=>20|n=>n,fun|n=>n⟩
theorem Tryz.laysCloneE:Go.Proofs.SlLaysW.n5 Tryz.prog Tryz.laysCloneE_ren:={
 mixed:=by kernel_rfl
 f5:=⟨Tryz.f58.name,by decide,Tryz.func58.trans (congrArg some (by kernel_rfl))⟩
 f7:=Tryz.func110.trans (congrArg some (by kernel_rfl))
 t4:=Tryz.underlying4
 a4:=Tryz.isAgg4
 z4:=Tryz.sizeOf4
 v4:=Tryz.zeroValue4
 t20:=Tryz.underlying20
 a20:=Tryz.isAgg20
 z20:=Tryz.sizeOf20
 v20:=Tryz.zeroValue20
 t23:=Tryz.underlying106
 a23:=Tryz.isAgg106
 z23:=Tryz.sizeOf106
 v23:=Tryz.zeroValue106}
def Tryz.laysCloneB_ren:Go.Shelf.Ren:=⟨fun|5=>59|7=>110|n=>n,fun|23=>107|25=>34|3=>4|4=>4|20=>20|n=>n,fun|n=>n⟩
theorem Tryz.laysCloneB:Go.Proofs.SlLaysW.n5 Tryz.prog Tryz.laysCloneB_ren:={
 mixed:=by kernel_rfl
 f5:=⟨Tryz.f59.name,by decide,Tryz.func59.trans (congrArg some (by kernel_rfl))⟩
 f7:=Tryz.func110.trans (congrArg some (by kernel_rfl))
 t4:=Tryz.underlying4
 a4:=Tryz.isAgg4
 z4:=Tryz.sizeOf4
 v4:=Tryz.zeroValue4
 t20:=Tryz.underlying20
 a20:=Tryz.isAgg20
 z20:=Tryz.sizeOf20
 v20:=Tryz.zeroValue20
 t23:=Tryz.underlying107
 a23:=Tryz.isAgg107
 z23:=Tryz.sizeOf107
 v23:=Tryz.zeroValue107}
end Go.Proofs
end

section
set_option linter.unusedVariables false
set_option linter.unusedSimpArgs false
namespace Go.Proofs.YtiliglahlfkikaaGreatDoor
open Go.RowKit
open Go.ChangeMaps (setBlock)
theorem Fr.setBlockR(w:World)(g:Nat)(o:Obj):Fr [g] w (setBlock w g o):=⟨rfl,rfl,rfl,by simp[Go.ChangeMaps.setBlock],fun k _ hk=>by
 show(w.heap.setIfInBounds g o)[k]? =_
 rw[Array.getElem?_setIfInBounds_ne (fun e=>hk (by simp[e]))],Nat.le_refl _⟩
theorem sJ{w:World}{g:Nat}{o:Obj}(h:g<w.heap.size):(setBlock w g o).heap[g]? =some o:=by
 show(w.heap.setIfInBounds g o)[g]? =_
 rw[Array.getElem?_setIfInBounds_self_of_lt h]
def qC(s:List UInt8)(pos:Int):Int:=((Utf8.decode ⟨s.toArray⟩ pos.toNat).1:Int)
def pU(s:List UInt8)(pos:Int):Int:=((Utf8.decode ⟨s.toArray⟩ pos.toNat).2:Int)
theorem pV(s:List UInt8)(pos:Int):1≤pU s pos:=by
 have:=Lib.width_pos ⟨s.toArray⟩ pos.toNat;unfold pU;omega
section
variable [cO] {P:Program} {n:Nat} {env:aR} {w:World} {o:Oper} {K:aR→World→Prop} {H:cw} {s:List UInt8}
theorem AD{t d:Nat}{x:Operand}(ho:o.op= .range t x)(hd:o.dst=some d)(hn:Nat.blt d n=true)(hx:env.ev x=some (sv s))(ht:P.underlying t=some .string)(h:Hp w H)
  (hK: ∀r w',Hp w' (H++ [(some r,.stringIter ⟨s.toArray⟩ 0)])→Fr [] w w'→w.heap.size≤r→K ((d,.pointer (some ⟨r,0,none⟩))::env) w'):ch P n env w o K:=by
 refine gN hd hn (fun a r=>?_) (hK w.heap.size (w.alloc (.stringIter ⟨s.toArray⟩ 0)) (h.alloc _) (Fr.alloc w _) (Nat.le_refl _));unfold execOp;have:=run_range_string (P:=P) w t ⟨s.toArray⟩ ht;simp only[ho,r.eval hx,sv,Sem.run_bind,this,Result.andThen_ok];rfl
theorem Dp{r ir d:Nat}{pos:Int}{x:Operand}(ho:o.op= .next x true)(hd:o.dst=some d)(hn:Nat.blt d n=true)(hx:env.ev x=some (.pointer (some ⟨r,0,none⟩)))(h:Hp w H)(hir:H[ir]? =some (some r,.stringIter ⟨s.toArray⟩ pos.toNat))(hp:0≤pos)
  (h0: ¬pos<s.length→K ((d,.tuple #[.bool false])::env) w)
  (h1: ∀w',pos<s.length→Hp w' (H.set ir (some r,.stringIter ⟨s.toArray⟩ (pos+pU s pos).toNat))→Fr [r] w w'→K ((d,.tuple #[.bool true,.int .i64 pos,.int .i32 (qC s pos)])::env) w'):ch P n env w o K:=by
 have hs:(⟨s.toArray⟩:ByteArray).size=s.length:=by simp[ByteArray.size]
 by_cases hc:pos<s.length
 ·have hr:=Lib.run_next_any_at (P:=P) w r ⟨s.toArray⟩ pos.toNat o.type (h.at hir) (by rw[hs];omega);have hw:=pV s pos;have e1:(pos+pU s pos).toNat=pos.toNat+(Utf8.decode ⟨s.toArray⟩ pos.toNat).2:=by unfold pU;omega
  have e2:((pos.toNat:Nat):Int)=pos:=by omega
  have hf:Fr [r] w (setBlock w r (.stringIter ⟨s.toArray⟩ (pos+pU s pos).toNat)):=Fr.setBlockR w r _;refine gN hd hn (fun a q=>?_) (h1 (setBlock w r (.stringIter ⟨s.toArray⟩ (pos+pU s pos).toNat)) hc (h.setAt hir hf (sJ (bF (h.at hir)))) hf);unfold execOp;simp only[ho,q.eval hx,Sem.run_bind,hr,Result.andThen_ok];rw[e1,e2];rfl
 ·have hr:=Lib.run_next_end_at (P:=P) w r ⟨s.toArray⟩ pos.toNat o.type (h.at hir) (by rw[hs];omega);refine gN hd hn (fun a q=>?_) (h0 hc);unfold execOp;simp only[ho,q.eval hx,Sem.run_bind,hr,Result.andThen_ok];rfl
end
end Go.Proofs.YtiliglahlfkikaaGreatDoor
end

section
set_option linter.unusedVariables false
set_option linter.unusedSimpArgs false
set_option maxRecDepth 20000
namespace Go.Proofs.YtiliglahlfkikaaGreatDoor.V
open Go.RowKit
section
variable {U:cn} {P:Program} {fi tE:Nat} {fn:Go.Func} {ρf ρt:Nat→Nat} {X:List Nat} {w:World}
theorem I7{Y:List Nat}{S:World→Prop}: ∀(xs:List (List UInt8)),(∀x∈xs,x.length≤9223372036854775807)→aZ U Y S .str xs (xs.flatMap (fun x=> [sv x]))
 | [],_=> .nil _
 |x::xs,h=> .cons .str x xs [sv x] _ (aK.str x (h x (by simp))) rfl (I7 xs fun y hy=>h y (by simp[hy]))
def Aa(U:cn):bf U:=⟨[.d .str,.d .str],fun xs es K=> ∃s sep:List UInt8,xs= [⟨false,[(1,.d .str s)]⟩,⟨false,[(1,.d .str sep)]⟩]∧es= []∧s.length≤1000000∧1≤sep.length∧K (.v ⟨false,[(1,.d (.sl .str) (Lib.split s sep))]⟩) []⟩
theorem pz(sep:ByteArray)(save:Nat): ∀(k:Nat) (s x:ByteArray),x∈Lib.splitB sep save k s→x.size≤s.size
 |0,s,x,h=>by simp[Lib.splitB]at h;subst h;exact Nat.le_refl _
 |k+1,s,x,h=>by
  unfold Lib.splitB at h;split at h
  ·simp at h;subst h;exact Nat.le_refl _
  ·rcases List.mem_cons.1 h with rfl|h
   ·rw[ByteArray.size_extract];omega
   ·have:=pz sep save k _ x h;rw[ByteArray.size_extract]at this;omega
theorem mq{s sep:List UInt8}(h1:1≤sep.length):(Lib.split s sep).length=Lib.count s sep+1:=by
 have:=Lib.splitB_all ⟨sep.toArray⟩ (by simpa[ByteArray.size]using h1) 0 (Lib.count s sep) ⟨s.toArray⟩ (by simp);have h2:=congrArg List.length (Lib.splitB_data ⟨sep.toArray⟩ 0 (Lib.count s sep) ⟨s.toArray⟩);rw[List.length_map,this]at h2;unfold Lib.split;simpa using h2.symm
theorem CW(hen:bg P fi=true)(hC: ∀(s sep:ByteArray) (m:Int) (w:World),s.size<4294967281→w.cell? ⟨0,0,none⟩=some (.int .i64 m)→1≤sep.size→Calls P fi #[.string s,.string sep] w fun e w'=>
   e= .returned (.slice (some ⟨w.heap.size,0,none⟩) (Lib.countB s sep+1) (Lib.countB s sep+1))∧w'=w.alloc (.cells ((Lib.splitB sep 0 (Lib.countB s sep) s).map Value.string).toArray tE)):dY P U fi (Aa U):=fun [F:ax] hpr X w ρ es0 xs vs K M hv hrun=>by
 obtain⟨s,sep,rfl,rfl,hs,h1,hK⟩:=hrun;obtain⟨v,us,rfl,ha,v2,us2,rfl,hb,h3⟩:=hv;rw[show us2= []from h3];obtain⟨e1,_⟩:=aK.inv (show aK U _ _ .str s [v]from(co.one1 ha).1);obtain⟨e2,_⟩:=aK.inv (show aK U _ _ .str sep [v2]from(co.one1 hb).1);injection e1 with e1;injection e2 with e2;subst e1;subst e2;obtain⟨mx,hm⟩:=M.gv.2 w rfl;refine⟨hen,(hC ⟨s.toArray⟩ ⟨sep.toArray⟩ mx w (by simp[ByteArray.size];omega) hm (by simpa[ByteArray.size]using h1)).mono ?_⟩;rintro e w' ⟨rfl,rfl⟩;have hlen:=mq (s:=s) h1;have hd2:=Lib.splitB_data ⟨sep.toArray⟩ 0 (Lib.count s sep) ⟨s.toArray⟩;have hsp:Lib.split s sep=(Lib.splitB ⟨sep.toArray⟩ 0 (Lib.count s sep) ⟨s.toArray⟩).map (·.data.toList):=by rw[hd2];rfl
 have hcells:((Lib.splitB ⟨sep.toArray⟩ 0 (Lib.countB ⟨s.toArray⟩ ⟨sep.toArray⟩) ⟨s.toArray⟩).map Value.string)=(Lib.split s sep).flatMap (fun x=> [sv x]):=by
  rw[DC,hsp,List.map_map];apply List.map_congr_left;intro x _;cases x;rfl
 have hcount:Lib.count s sep≤s.length:=by
  have:=Lib.countB_le ⟨sep.toArray⟩ (by simpa[ByteArray.size]using h1) s.length ⟨s.toArray⟩ (by simp[ByteArray.size]);simpa[ByteArray.size]using this
 have hf:Fr [] w (w.alloc (.cells ((Lib.splitB ⟨sep.toArray⟩ 0 (Lib.countB ⟨s.toArray⟩ ⟨sep.toArray⟩) ⟨s.toArray⟩).map Value.string).toArray tE)):=Fr.alloc w _;refine⟨_,rfl,_,_,ρ,hK,?_,(M.keep0 hf).1,(M.keep0 hf).2⟩;refine jF ?_;show aK U _ _ (.sl .str) (Lib.split s sep) [_]
 have hle: ∀x∈Lib.split s sep,x.length≤9223372036854775807:=fun x hx=>by
  rw[hsp]at hx;obtain⟨y,hy,rfl⟩:=List.mem_map.1 hx;have:=pz _ _ _ _ _ hy;have e1:y.size=y.data.toList.length:=Array.length_toList.symm;have e2:(⟨s.toArray⟩:ByteArray).size=s.length:=List.size_toArray;omega
 have hrd:mD (aj ρ (aS 0 ([]:List (aW U)))++X) (w.alloc (.cells ((Lib.splitB ⟨sep.toArray⟩ 0 (Lib.countB ⟨s.toArray⟩ ⟨sep.toArray⟩) ⟨s.toArray⟩).map Value.string).toArray tE)) (some ⟨w.heap.size,0,none⟩) ((Lib.split s sep).flatMap (fun x=> [sv x])):=by
  intro j v hj;refine⟨w.heap.size,0,rfl,fun hx=>?_,?_⟩
  ·have:=M.lo w rfl _ (show w.heap.size∈X from hx);omega
  ·rw[Nat.zero_add,hcells];unfold World.cell?;simp only[heap_alloc_new];simpa using hj
 have:=aK.sl (U:=U) (Y:=aj ρ (aS 0 [])++X) (S:=(· =w.alloc (.cells ((Lib.splitB ⟨sep.toArray⟩ 0 (Lib.countB ⟨s.toArray⟩ ⟨sep.toArray⟩) ⟨s.toArray⟩).map Value.string).toArray tE))) .str (Lib.split s sep) (some ⟨w.heap.size,0,none⟩) (Lib.count s sep+1) _ (I7 _ hle) (fun w2 h2=>by rw[h2];exact hrd) (Nat.le_of_eq hlen) (by unfold maxLen;omega);rw[show(List.length (α:=TT U.ty .str) (Lib.split s sep))=Lib.count s sep+1 from hlen]at this;exact this
end
theorem CX(s:List UInt8)(p:Int):0≤qC s p∧qC s p≤1114111:=by have:=Lib.rune_le ⟨s.toArray⟩ p.toNat;unfold qC;omega
def cJ(s:List UInt8)(f:Int→Bool)(truth:Bool):Nat→Int→(Int)⊕(Int)
 |0,pgr1=> .inr (pgr1)
 |fuel+1,pgr1=>
  if pgr1<(s.length:Int)then
   if(f (qC s pgr1))=truth then
    .inl pgr1
   else
    cJ s f truth fuel (pgr1+pU s pgr1)
  else
   .inr (pgr1)
def jl(s:List UInt8)(f:Int→Bool)(truth:Bool):Int:=
 match cJ s f truth (((s.length:Int)-(0:Int)).toNat+1) (0:Int)with
 | .inl r=>r
 | .inr (pgr1)=>
  (-1)
theorem x7(w:World)(s:List UInt8)(f1:Value)(f:Int→Bool)(truth:Bool)(z1: ∀(w1:World) (x0:Int),Fr ([]) w w1→0≤x0∧x0≤1114111→pW Tryz.prog f1 [.int .i32 x0] w1 fun v w2=>v= .bool (f x0)∧Fr [] w1 w2):
  Fn Tryz.prog 121 [sv s,f1,.bool truth] w fun v w'=>v= .int .i64 (jl s f truth)∧Fr [] w w':=by
 refine lN 21 (by kernel_rfl) Tryz.func121 rfl rfl rfl ?_;dsimp only[dX];have st:=Dr (X:= []) (w:=w) (by simp[Lo]);have hF:=Fr.refl ([]) w;refine sq fun _ k1=>rg (gA rfl (Ln k1 (sq fun _ k2=>sq fun _ k3=>rg (Lm rfl (La rfl (AD (s:=s) rfl rfl rfl rfl Tryz.underlying9 st.hp (fun gr1 w1 (hp:Hp w1 [_]) hf hg1=>?_)))))));have st:St [] w1 [_] []:=st.push hp hf hg1;have hg1:=Nat.le_trans hF.size hg1;have hF:=hF.step0 hf;refine Ln k3 (cl (lp (fun q E W=> ∃(pgr1:Int),E= [(1,f1),(2,.bool truth),(10,.pointer (some ⟨gr1,0,none⟩))]∧jq q (fun m=>(cJ s f truth m pgr1=cJ s f truth (((s.length:Int)-(0:Int)).toNat+1) (0:Int)∧((s.length:Int)- pgr1).toNat<m)) (cJ s f truth (((s.length:Int)-(0:Int)).toNat+1) (0:Int)= .inr (pgr1))∧(0≤pgr1)∧St [] W [(some gr1,Obj.stringIter ⟨s.toArray⟩ pgr1.toNat)] []∧Fr ([]) w W) (((s.length:Int)-(0:Int)).toNat+1) [(1,_),(2,_),(10,_)] ⟨rfl,rfl,rfl,trivial⟩ ⟨_,rfl,⟨rfl,Nat.lt_succ_self _⟩,by first|omega|(simp;done)|(simp;omega),st,hF⟩ k2 ?_ fun hout1=>?_))
 ·rintro E w2 ⟨pgr1,rfl,hLk1,hinv,st,hF⟩;unfold jq at hLk1;dsimp only at hLk1;refine sq fun _ k4=>rg (gA rfl (Ln k4 (wR (fR (kU rfl rfl) ?_))));unfold jl;rewrite[hLk1];(try dsimp only);exact⟨rfl,hF⟩
 rintro m E w3 ⟨pgr1,rfl,⟨hL1,hmu⟩,hinv,st,hF⟩;obtain⟨fuel,rfl⟩: ∃q,m=q+1:=⟨m - 1,by omega⟩;refine sq fun _ k5=>rg ?_;have hdw1:=pV s pgr1;refine DM (lh rfl) (Dp (ir:=0) (s:=s) (pos:=pgr1) rfl rfl rfl rfl st.hp rfl (by omega) (fun hc1=>?_) (fun w4 hc1 (hp:Hp w4 [_]) hf=>?_))
 ·refine Lx rfl (Ln k5 (sq fun _ k6=>je rfl (iX (lZ (lZ (kQ (eD (?_))))))));exact hout1 _ [(1,_),(2,_),(10,_)] _ ⟨rfl,rfl,rfl,trivial⟩ ⟨pgr1,rfl,show _=_ from by rewrite[←hL1,cJ];rewrite[if_neg hc1];rfl,by first|omega|(simp;done)|(simp;omega),(st.pk [0] (by decide)).pickK [],hF⟩
 have st:St [] w4 [_] []:=st.set (i:=0) rfl hp hf;have st:St [] w4 [_] []:=st;have hF:=hF.step hf (by intro y hy;simp only[List.mem_cons,List.not_mem_nil,or_false]at hy;subst hy;first|(exact Or.inr (by omega))|(exact Or.inl (Om _ _))|(exact Or.inl (by simp)));refine Lx rfl (Ln k5 (sq fun _ k7=>fK rfl (sk k7 (cl (sq fun _ k8=>rg (Lx rfl (Lx rfl (gA rfl (gA rfl (Ln k8 (sq fun _ k9=>rg (Lm rfl (Lm rfl (La rfl (Oe st hF rfl (z1 _ (qC s pgr1) hF (CX s pgr1)) fun w5 st hF=>Lm rfl (Ly rfl (EZ rfl rfl rfl Tryz.underlying4) (Ln k9 (cE rfl (fun hc2=>?_) (fun hc2=>?_)))))))))))))))))))
 ·refine sq fun _ xm=>rg (Lm rfl (gA rfl (Ln xm (wR (uJ (lY (uJ (lY (fR (kU rfl rfl) ?_)))))))));have hret1:cJ s f truth (((s.length:Int)-(0:Int)).toNat+1) (0:Int)= .inl pgr1:=by rewrite[←hL1,cJ];rewrite[if_pos hc1,if_pos hc2];rfl
  have he2:jl s f truth=pgr1:=by unfold jl;rewrite[hret1];(try dsimp only);all_goals rfl
  rewrite[he2];exact⟨rfl,hF⟩
 refine ii (od (eD (?_)));exact⟨fuel,[(1,_),(2,_),(10,_)],Nat.lt_succ_self _,⟨rfl,rfl,rfl,trivial⟩,(pgr1+pU s pgr1),rfl,⟨by rewrite[←hL1,cJ];rewrite[if_pos hc1,if_neg hc2];rfl,by first|omega|(simp;done)|(simp;omega)⟩,by first|omega|(simp;done)|(simp;omega),(st.pk [0] (by decide)).pickK [],hF⟩
def fU(s:List UInt8)(f:Int→Bool):Int:=
 jl s f true
theorem x8(w:World)(s:List UInt8)(f1:Value)(f:Int→Bool)(z1: ∀(w1:World) (x0:Int),Fr ([]) w w1→0≤x0∧x0≤1114111→pW Tryz.prog f1 [.int .i32 x0] w1 fun v w2=>v= .bool (f x0)∧Fr [] w1 w2):
  Fn Tryz.prog 68 [sv s,f1] w fun v w'=>v= .int .i64 (fU s f)∧Fr [] w w':=by
 refine lN 8 (by kernel_rfl) Tryz.func68 rfl rfl rfl ?_;dsimp only[dX];have st:=Dr (X:= []) (w:=w) (by simp[Lo]);have hF:=Fr.refl ([]) w;refine sq fun _ k1=>rg (gA rfl (Ln k1 (sq fun _ k2=>rg (Lm rfl (Lm rfl (La rfl (Pc st hF rfl (x7 _ s f1 f true (fun w1 x0 hw hr=>z1 w1 x0 (hF.step0 hw) hr)) fun w1 st hF=>gA rfl (Ln k2 (wR (fR (kU rfl rfl) ?_))))))))));unfold fU;exact⟨rfl,hF⟩
section
variable {U:cn}
def xj(U:cn):bf U:=⟨[.d .str,.f1 (.int .i32)],fun xs es K=> ∃(s:List UInt8) (g:Int→Bool),xs= [⟨false,[(1,.d .str s)]⟩,⟨false,[(1,.f1 (.int .i32) g)]⟩]∧es= []∧K (.v ⟨false,[(1,.d (.int .i64) (fU s g))]⟩) []⟩
theorem qR(s:List UInt8)(f:Int→Bool)(truth:Bool): ∀(fuel:Nat) (p:Int),0≤p→(∃q,cJ s f truth fuel p= .inl q∧0≤q∧q<s.length)∨ ∃q,cJ s f truth fuel p= .inr q
 |0,p,h=> .inr ⟨p,rfl⟩
 |fuel+1,p,h=>by
  unfold cJ;split
  ·split
   ·exact .inl ⟨p,rfl,h,by omega⟩
   ·have:=pV s p;exact qR s f truth fuel _ (by omega)
  ·exact .inr ⟨_,rfl⟩
theorem Ab:dY Tryz.prog U 68 (xj U):=fun [F:ax] hpr X w ρ es0 xs vs K M hv hrun=>by
 obtain⟨s,g,rfl,rfl,hK⟩:=hrun;obtain⟨v,us,rfl,ha,v2,us2,rfl,hb,h3⟩:=hv;rw[show us2= []from h3];obtain⟨e1,hsl⟩:=aK.inv (show aK U _ _ .str s [v]from(co.one1 ha).1);injection e1 with e1;subst e1;obtain⟨u',e,hv⟩:=(show Vw U X w ρ 0 (aS 0 []) (.f1 (.int .i32) g) [v2]from(co.one1 hb).1);injection e with e;subst e;refine Fn.mono (x8 w s _ g (fun w1 x0 hf hx=>?_)) ?_
 ·have mv:Mv (aj ρ (aS 0 ([]:List (aW U)))++X) (· =w) (aj ρ (aS 0 ([]:List (aW U)))++X) (· =w1):=Pp hf;have h1:=yK.call (U:=U) (a:= .int .i32) (v:= .int .i32 x0) (t:=(x0:Int)) (hv.mv mv) M.gY (aK.int .i32 x0 ⟨by omega,by omega⟩) rfl;rw[hpr]at h1;exact h1
 ·rintro v w' ⟨rfl,hf'⟩;have hr:fu .i64 (fU s g):=by
   unfold fU jl;rcases qR s g true (((s.length:Int)-(0:Int)).toNat+1) 0 (by omega)with⟨q,e,h1,h2⟩|⟨q,e⟩
   ·rw[e];exact⟨by simp only;omega,by simp only;omega⟩
   ·rw[e];exact(show fu .i64 (-1)from⟨by decide,by decide⟩)
  exact⟨_,_,ρ,hK,jF (aK.int .i64 _ hr),(M.keep0 hf').1,(M.keep0 hf').2⟩
end
end Go.Proofs.YtiliglahlfkikaaGreatDoor.V
end

section
namespace Go.Proofs.YtiliglahlfkikaaGreatDoor
open Go.RowKit Go.Lib
structure Lc where
 fn:FuncId
 tmps:Array Value
 ps:Array Tmp
 asg:Code
 body:Code
 D:Nat
abbrev Lr(c:Lc)(st:LoopState)(pe:Option Code):Obj:= .loop {state:=st,pending:=pe,fn:=c.fn,tmps:=c.tmps,params:=c.ps,assign:=c.asg,body:=c.body,defers:=c.D}
theorem Fr.putObj{w:World}{l:Nat}{o:Obj}:Fr [l] w (w.putObj l o):=⟨rfl,rfl,rfl,by simp,fun _ _ hk=>World.putObj_heap_other (fun e=>hk (by simp[e])),Nat.le_refl _⟩
theorem Hp.putObj{w:World}{H:cw}{i l:Nat}{o:Obj}(o':Obj)(h:Hp w H)(hi:H[i]? =some (some l,o)):Hp (w.putObj l o') (H.set i (some l,o')):=
 h.setAt hi Fr.putObj (World.putObj_heap_same (bF (h.at hi)))
def nI(P:Program)(l:Nat)(xs:List Value)(w:World)(T F:World→Prop):Prop:=
 ∃fn tmps asg body,(Instr.yield l xs.toArray).run P w= .ok (.round l fn tmps asg body) w∧
  RoundIn Fence.wide 0 P l fn tmps asg body w (fun e w'=> ∃b,e= .returned (.bool b)∧(b=true→T w')∧(b=false→F w'))
section
variable [cO] {P:Program} {n:Nat} {Q:EQ} {env:aR} {w:World} {ops:Array Oper} {o:Oper} {rest:List Oper}
theorem AP{x:Operand}{xs:List Operand}{vs:List Value}{ts:Array TypeId}{d l:Nat}{T F:World→Prop}(hw:nN n env ops o true)
  (ho:o.op= .call {callee:= .value x,args:=xs.toArray,argTypes:=ts}) (hf:env.ev x=some (.func (.yield l) #[] #[])) (hx:env.evs xs=some vs)
  (hd:o.dst=some d) (hn:Nat.blt d n=true) (hy:nI P l vs w T F)
  (h1: ∀w',T w'→Ls P n ops Q rest ((d,.bool true)::env) w') (h2: ∀w',F w'→Ls P n ops Q rest ((d,.bool false)::env) w'):Ls P n ops Q (o::rest) env w:=fun hnd a r=>
 wpListIn_step fun K hK=>by
  rw[if_pos (hw a r)];refine⟨fun _ _=>trivial,?_⟩;rw[Oper.semFw _ (xD hnd)];obtain⟨fn,tmps,asg,body,hrun,hR⟩:=hy;have e1:=r.evals hx;have e2:=r.eval hf;have hrun2:(execOp a.eval o).run P w= .ok (.round l fn tmps asg body) w:=by
   unfold execOp;simp only[ho,resolve,e2,Deferred.ofValue,Sem.run_bind,Sem.run_pure,Result.andThen_ok,invoke];simp[e1,hrun]
  rw[hrun2,Oper.uponIn_round];refine⟨fun h=>by simp[Fw,Fence.wide]at h,trivial,fun c cs _=>?_⟩;obtain⟨e,w',⟨b,he,ht,hf'⟩,hs⟩:=hR.2 c cs (room_wide _);subst he;refine⟨.returned (.bool b),w',?_,hs⟩;have r':=r.put hn (.bool b);rw[←hd]at r';cases b with
  |true=>exact hK _ _ (h1 w' (ht rfl) (rr hnd) _ r')
  |false=>exact hK _ _ (h2 w' (hf' rfl) (rr hnd) _ r')
end
section
variable [cO] {P:Program} {n:Nat} {env:aR} {S:World→Prop} {o:Oper}
theorem EL{x y:Operand}{t u:Nat}{k:IntKind}{p q:Int}(ho:o.op= .call {callee:= .builtin .min,args:= #[x,y],argTypes:= #[t,u]})(hx:env.ev x=some (.int k p))(hy:env.ev y=some (.int k q)):cU P n env S o (.int k (min p q)):=fun a r w _=>by
 refine fI ho (r.eval hx) (r.eval hy) fun c=>?_;have e:(if q<p then q else p)=min p q:=by simp only[Int.min_def];split<;>split<;>omega
 simp[builtin,Builtin.min_,Builtin.min2,←e]
end
def Rd(c:Lc)(l:Nat)(T F:World→Prop):EQ:=fun e _ w=>match e with
 | .normal=>w.heap[l]? =some (Lr c .busy none)∧T (w.putObj l (Lr c .ready none))
 | .ret=>w.heap[l]? =some (Lr c .busy none)∧F (w.putObj l (Lr c .done (some .ret)))
 | .exit id=>w.heap[l]? =some (Lr c .busy none)∧F (w.putObj l (Lr c .done (some (.exit id))))
 |_=>False
section
variable {c:Lc} {l i:Nat} {T F:World→Prop} {env:aR} {w:World} {H:cw}
theorem On(hp:Hp w H)(hi:H[i]? =some (some l,Lr c .busy none))(h: ∀W,Hp W (H.set i (some l,Lr c .ready none))→Fr [l] w W→T W):Rd c l T F .normal env w:=⟨hp.at hi,h _ (hp.putObj _ hi) Fr.putObj⟩
end
def sS:List Tmp→List Value→aR→aR
 |t::ts,v::vs,e=>sS ts vs ((t,v)::e)
 |_,_,e=>e
structure wk(n:Nat)(env:aR)(t:Array Value):Prop where
 size:t.size=n
 get: ∀k v,env.get k=some v→t[k]? =some v
theorem wk.par{n:Nat}: ∀(ts:List Tmp) (vs:List Value) (env:aR) (t:Array Value),wk n env t→(ts.all (Nat.blt · n))=true→wk n (sS ts vs env) ((ts.zip vs).foldl (fun tmps (t,a)=>tmps.setIfInBounds t a) t)
 | [],_,_,_,h,_=>h
 |_::_,[],_,_,h,_=>h
 |d::ts,v::vs,env,t,h,hb=>by
  simp only[List.all_cons,Bool.and_eq_true]at hb;have hd:d<n:=by simpa[Nat.blt_eq]using hb.1
  refine wk.par ts vs ((d,v)::env) _ ⟨by simp[h.size],fun k u hk=>?_⟩ hb.2;unfold aR.get at hk;by_cases e:d=k
  ·subst e;simp at hk;subst hk;simp[h.size,hd]
  ·rw[dq e]at hk;simp only[cond_false]at hk;rw[Array.getElem?_setIfInBounds_ne e];exact h.get k u hk
theorem AQ{P:Program}{n l:Nat}{c:Lc}{xs:List Value}{env:aR}{w:World}{T F:World→Prop}(ps:List Tmp)(hps:c.ps=ps.toArray)(hl:xs.length=ps.length)(hb:(ps.all (Nat.blt · n))=true)
  (hw:w.heap[l]? =some (Lr c .ready none)) (ht:wk n env c.tmps)
  (h: ∀ [cO],Wp P n c.asg (Th (fun e w1=> ∃H i,Hp w1 H∧H[i]? =some (some l,Lr c .ready none)∧ ∀W2,Hp W2 (H.set i (some l,Lr c .busy none))→Fr [l] w1 W2→Wp P n c.body (Rd c l T F) e W2) (fun _ _ _=>False)) (sS ps xs env) w):
  nI P l xs w T F:=by
 have h1:=run_yield (P:=P) (args:=xs.toArray) hw (by simp[hps,hl]);refine⟨_,_,_,_,h1,?_⟩;refine roundIn_of_wpIn trivial ?_;have hr:=wk.par ps xs env c.tmps ht hb;have h2:= @h ⟨[],some l⟩;have e1:(Array.foldl (fun tmps x=>tmps.setIfInBounds x.fst x.snd) c.tmps (c.ps.zip xs.toArray))=((ps.zip xs).foldl (fun tmps (t,a)=>tmps.setIfInBounds t a) c.tmps):=by
  rw[hps];simp
 have h3:=h2 {tmps:=(ps.zip xs).foldl (fun tmps (t,a)=>tmps.setIfInBounds t a) c.tmps,defers:= []} (@kj.mk ⟨[],some l⟩ _ _ _ hr.size rfl hr.get);simp only[e1];refine Code.wpIn_mono (fun e a' w' hq=>?_) h3;obtain⟨env',r',q⟩:=hq;cases e with
 |normal=>
  obtain⟨H,i,hp,hi,q2⟩:=q;refine⟨_,run_beginRound (hp.at hi) rfl,?_⟩;refine Code.wpIn_mono (fun e2 a2 w2 hq2=>?_) (q2 _ (hp.putObj _ hi) Fr.putObj a' r');obtain⟨env2,r2,q3⟩:=hq2;cases e2 with
  |normal=>exact⟨_,_,run_endRound none q3.1,true,rfl,fun _=>q3.2,fun hf=>by cases hf⟩
  |ret=>exact⟨_,_,run_endRound (some .ret) q3.1,false,rfl,(fun hf=>by cases hf),fun _=>q3.2⟩
  |exit id=>exact⟨_,_,run_endRound (some (.exit id)) q3.1,false,rfl,(fun hf=>by cases hf),fun _=>q3.2⟩
  |_=>exact q3.elim
 |_=>exact q.elim
abbrev BK(D:Nat):cO:=⟨[{target:= .collected D,args:= #[]}],none⟩
def JI [cO](P:Program)(n:Nat)(fn:Func)(D:Nat)(Post:Value→World→Prop):EQ:=fun e env w=>match e with
 | .normal| .ret=>w.heap[D]? =some (.deferred (some []))∧ ∃v,yN P n fn env (w.putObj D (.deferred none)) v∧Post v (w.putObj D (.deferred none))
 |_=>False
theorem DG [cO]{P:Program}{n i D:Nat}{fn:Func}{env:aR}{w:World}{H:cw}{Post:Value→World→Prop}(hp:Hp w H)(hi:H[i]? =some (some D,.deferred (some [])))
  (h: ∀W,Hp W (H.set i (some D,.deferred none))→Fr [D] w W→ ∃v,yN P n fn env W v∧Post v W):JI P n fn D Post .ret env w:=⟨hp.at hi,h _ (hp.putObj _ hi) Fr.putObj⟩
abbrev om(Post:Value→World→Prop):Ending→World→Prop:=fun e w'=> ∃v,e= .returned v∧Post v w'
def Oo(P:Program)(fn:Func)(Post:Value→World→Prop):List Code→Act→World→Prop
 | []=>bodyPostM Fence.wide 0 P fn (om Post) .normal
 |c::cs=>c.wpIn Fence.wide 0 P (Exit.then (Oo P fn Post cs) (bodyPostM Fence.wide 0 P fn (om Post)))
def Wf(P:Program)(n:Nat)(fn:Func)(Post:Value→World→Prop)(cs:List Code)(env:aR)(w:World):Prop:= ∀a, @kj dfs0 n env a→Oo P fn Post cs a w
def Wd [cO](P:Program)(n:Nat)(fn:Func)(D:Nat)(Post:Value→World→Prop):List Code→aR→World→Prop
 | []=>JI P n fn D Post .normal
 |c::cs=>Wp P n c (Th (Wd P n fn D Post cs) (JI P n fn D Post))
section
variable {P:Program} {n:Nat} {fn:Func} {Post:Value→World→Prop} {env:aR} {w:World} {x y z:Code} {cs:List Code}
theorem wl(h:Wf P n fn Post (x::y::cs) env w):Wf P n fn Post (.seq x y::cs) env w:=fun a r=>
 wpIn_seq (Code.wpIn_mono (fun e a' w' hq=>by cases e<;>exact hq) (h a r))
theorem DH{a:Act}{e:Exit}(he:e= .normal∨e= .ret)(r: @kj dfs0 n env a)(h: @Fq dfs0 P n fn (om Post) e env w):bodyPostM Fence.wide 0 P fn (om Post) e a w:=by
 have hd:a.defers= []:=r.defers;rcases he with rfl|rfl<;>
 ·obtain⟨v,hv,hP⟩:=h;simp only[bodyPostM,hd];exact⟨v,hv a r,hP⟩
theorem JJ(h: ∀K:aR→World→Prop,(∀e v,Wf P n fn Post cs e v→K e v)→ @Wp dfs0 P n x (Th K (@Fq dfs0 P n fn (om Post))) env w):Wf P n fn Post (x::cs) env w:=fun a r=>
 Code.wpIn_mono (fun e a' w' hq=>by
  obtain⟨env',r',q⟩:=hq;cases e with
  |normal=>exact q a' r'
  |ret=>exact DH (.inr rfl) r' q
  |_=>exact q.elim) (h (Wf P n fn Post cs) (fun _ _ h=>h) a r)
theorem p8{a:Act}{e:Exit}{D:Nat}(he:e= .normal∨e= .ret)(r: @kj (BK D) n env a)(h: @JI (BK D) P n fn D Post e env w):bodyPostM Fence.wide 0 P fn (om Post) e a w:=by
 have hd:a.defers= [{target:= .collected D,args:= #[]}]:= @kj.defers (BK D) _ _ _ r;rcases he with rfl|rfl<;>
 ·obtain⟨h1,v,hv,hP⟩:=h;simp only[bodyPostM,hd];refine⟨by simp,.inl ⟨D,_,rfl,run_takeDeferred h1,v,hv a r,v,rfl,hP⟩⟩
theorem wm{D:Nat}: ∀(cs:List Code) (env:aR) (w:World) (a:Act), @Wd (BK D) P n fn D Post cs env w→ @kj (BK D) n env a→Oo P fn Post cs a w
 | [],_,_,_,h,r=>p8 (.inl rfl) r h
 |c::cs,env,w,a,h,r=>Code.wpIn_mono (fun e a' w' hq=>by
   obtain⟨env',r',q⟩:=hq;cases e with
   |normal=>exact wm cs env' w' a' q r'
   |ret=>exact p8 (.inr rfl) r' q
   |_=>exact q.elim) (h a r)
theorem JK{id gf:Nat}{g:Operand}{ps:Array Tmp}{asg body:Code}{lb:List Value}(hg:env.ev g=some (.func (.func gf) #[] lb.toArray))(hent:bg P gf=true)
  (h: ∀(c:Lc) (D l:Nat) (W:World),c.ps=ps→c.asg=asg→c.body=body→wk n env c.tmps→Fr [] w W→w.heap.size≤D→w.heap.size≤l→(∀H,Hp w H→Hp W (H++ [(some D,.deferred (some [])),(some l,Lr c .ready none)]))→
   Fn P gf (.func (.yield l) #[] #[]::lb) W fun _ W'=>
    (∃H i,Hp W' H∧H[i]? =some (some l,Lr c .ready none)∧ ∀W2,Hp W2 (H.set i (some l,Lr c .exhausted none))→Fr [l] W' W2→ ∀ [cO],Wd P n fn D Post cs env W2)∨
    (∃H i,Hp W' H∧H[i]? =some (some l,Lr c .done (some (.exit id)))∧ ∀W2,Hp W2 (H.set i (some l,Lr c .exhausted (some (.exit id))))→Fr [l] W' W2→ ∀ [cO],Wd P n fn D Post cs env W2)∨
    (∃H i,Hp W' H∧H[i]? =some (some l,Lr c .done (some .ret))∧ ∀W2,Hp W2 (H.set i (some l,Lr c .exhausted (some .ret)))→Fr [l] W' W2→ ∀ [cO],JI P n fn D Post .ret env W2)):
  Wf P n fn Post (.block id (.rangeFunc g ps asg body)::cs) env w:=fun a r=>by
 refine wpIn_block (wpIn_rangeFunc fun f _=>?_);have e2:=r.eval hg;obtain⟨c,hc⟩: ∃c:Lc,c=⟨f,a.tmps,ps,asg,body,w.heap.size⟩:=⟨_,rfl⟩;obtain⟨W1,hW1⟩: ∃W1,(w.alloc (.deferred (some []))).alloc (Lr c .ready none)=W1:=⟨_,rfl⟩;have hsz:(w.alloc (.deferred (some []))).heap.size=w.heap.size+1:=World.size_alloc ..;have hF:Fr [] w W1:=by rw[←hW1];exact(Fr.alloc w _).step0 (Fr.alloc _ _)
 have hmain:=h c w.heap.size (w.heap.size+1) W1 (by rw[hc]) (by rw[hc]) (by rw[hc]) (by rw[hc];exact⟨r.size,r.get⟩) hF (Nat.le_refl _) (by omega) (fun H hp=>by
  have h1:=(hp.alloc (.deferred (some []))).alloc (Lr c .ready none);rw[hW1,hsz,List.append_assoc]at h1;exact h1)
 refine⟨w.heap.size+1,[{target:= .collected w.heap.size,args:= #[]}],W1,{target:= .fn (.func gf) lb.toArray,args:= #[.func (.yield (w.heap.size+1)) #[] #[]]},W1,gf,
  (.func (.yield (w.heap.size+1)) #[] #[]::lb).toArray,W1,?_,?_,fun _ _=>trivial,?_,fun h=>by simp[Fence.wide]at h,?_⟩
 ·rw[←hW1,hc];exact run_enterLoop_outer _ _ _ _ _
 ·simp only[resolve,e2];simp[go_sem]
 ·have eg:=hent;unfold bg at eg;cases hq:P.funcs[gf]? with
  |none=>simp[hq]at eg
  |some fn'=>
   simp only[hq,Bool.and_eq_true,Bool.not_eq_true',beq_eq_false_iff_ne]at eg;obtain⟨h2,h3⟩:=eg;have h4: ¬fn'.body=none:=by intro hbb;simp[hbb]at h3
   simp only[invoke];simp[callFunc,hq,h2,h4]
 ·have hcalls:=(callsIn_wide (n:=0 - 1)).2 hmain.2;refine hcalls.mono fun e W' ⟨v,he,hv⟩=>?_;subst he;have hd0:a.defers= []:=r.defers;have ra: @kj (BK w.heap.size) n env {a with defers:= [{target:= .collected w.heap.size,args:= #[]}]++a.defers}:= @kj.mk (BK _) _ _ _ r.size (by rw[hd0];rfl) r.get;rcases hv with⟨H,i,hp,hi,h2⟩|⟨H,i,hp,hi,h2⟩|⟨H,i,hp,hi,h2⟩
  ·exact⟨none,_,run_endLoop (hp.at hi) (by simp),wm cs env _ _ (@h2 _ (hp.putObj _ hi) Fr.putObj (BK _)) ra⟩
  ·refine⟨some (.exit id),_,run_endLoop (hp.at hi) (by simp),?_⟩;refine wpIn_exit ?_;simp only[Exit.inBlock,if_true];exact wm cs env _ _ (@h2 _ (hp.putObj _ hi) Fr.putObj (BK _)) ra
  ·refine⟨some .ret,_,run_endLoop (hp.at hi) (by simp),?_⟩;exact wpIn_ret (p8 (.inr rfl) ra (@h2 _ (hp.putObj _ hi) Fr.putObj (BK _)))
theorem HG{f:FuncId}{c:Code}{args:List Value}(n:Nat)(he:bg P f=true)(hf:P.funcs[f]? =some fn)(hb:fn.body=some c)(hn:fn.ntmps=n)(hle:Nat.ble args.length n=true)
  (h:Wf P n fn Post [c] (dX 0 args) w):Fn P f args w Post:=by
 refine⟨he,callsIn_wide (n:=0)|>.1 (callsIn_of_wp_marks hf hb trivial (Code.wpIn_mono (fun e a' w' hq=>by cases e<;>exact hq) (h _ ⟨?_,rfl,fun k v hk=>?_⟩)))⟩
 ·have:args.length≤n:=by simpa[Nat.ble_eq]using hle
  simp[hn];omega
 ·obtain⟨_,h2⟩:=mE args 0 k v hk;simp only[Nat.sub_zero]at h2;have hlt:k<args.length:=(List.getElem?_eq_some_iff.1 h2).1;have h3:args[k]=v:=(List.getElem?_eq_some_iff.1 h2).2;simp[Array.getElem?_append,hlt,h3]
end
section
variable [cO] {P:Program} {n:Nat} {env:aR} {w:World} {o:Oper} {K:aR→World→Prop} {H:cw}
end
section
variable [cO] {P:Program} {n:Nat} {env:aR} {w:World} {o:Oper} {K:aR→World→Prop} {H:cw}
end
end Go.Proofs.YtiliglahlfkikaaGreatDoor
end
