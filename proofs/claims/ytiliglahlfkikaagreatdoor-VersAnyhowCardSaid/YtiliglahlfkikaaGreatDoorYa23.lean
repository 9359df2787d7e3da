/- From a contract to a law's walk; the shapes of what is handed in. -/
import Derived.Test.YtiliglahlfkikaaGreatDoorYa22
import Derived.Test.YtiliglahlfkikaaGreatDoorYa13
import Derived.Test.YtiliglahlfkikaaGreatDoorYa17
set_option linter.unusedVariables false
set_option linter.unusedSimpArgs false
namespace Go.Proofs.YtiliglahlfkikaaGreatDoor.V
open Go.ChangeShapes Go.WideShapes Go.ChangeAt Go.RowKit Go.Joins
theorem A8{f:FuncId}{c:aZ U}{xs:List (Va U)}{vs:List Value}{W:World}(hk:bR Tryz.prog U f c)(hg:Gv W)(hv: ∀(F:ao) (ρ:Nat→Rz),bS (@Vw F U gB W ρ 0 []) xs vs)
  (hr:c.run xs [] fun r es=>r= .v ⟨false,[(1,.d .bool true)]⟩∧es= []):Fn Tryz.prog f vs W fun v w'=>v= .bool true∧Fr [] W w':=by
 obtain⟨b,bx,bp⟩: ∃b:Bx,b.f.xf=gB∧b.f.pr=Tryz.prog:=⟨⟨⟨gB,Tryz.prog⟩⟩,rfl,rfl⟩;have M:=GJ (F0:=b.f) (U:=U) (X:=gB) (w:=W) (ρ0:=fun _=>⟨none,0⟩) (fun x hx=>hg.lt x hx) (fun z hz=>bx▸hz) ⟨fun z hz=>bx▸hz,fun w hw=>hw▸hg⟩;refine Fn.mono (@hk b.f bp gB W _ [] xs vs _ M (hv b.f _) hr) fun v w'=>?_;rintro⟨r,es',ρ',⟨rfl,rfl⟩,hav,M',st⟩;have st:=co.i (F0:=b.f) st;exact⟨@ui b.f _ _ _ _ _ _ 1 true v hav,st.fr⟩
theorem G2{W:World}(h:W.ShapedOpen Tryz.prog):Bs W:=fun g hg j v hc=>by
 have e:g=0:=by simpa[gB]using hg
 subst e;obtain⟨cs,hh,hs,_⟩:=h.1 0 #[.int .i64 0] 3 (of_decide_eq_true (by kernel_rfl)) (by kernel_rfl);have hs:cs.size=1:=hs;have h1:cs[j]? =some v:=by simpa[World.cell?,hh]using hc
 have:=(Array.getElem?_eq_some_iff.1 h1).1;omega
section
variable {W:World}
set_option maxRecDepth 20000
theorem o3:oo Tryz.prog U W 3 (.int .i64):=tI Tryz.underlying3
theorem o2:oo Tryz.prog U W 2 (.int .i64):=tI Tryz.underlying2
theorem K8:oo Tryz.prog U W 30 (.int .u32):=zr Tryz.underlying30
theorem o9:oo Tryz.prog U W 9 .str:=zt Tryz.underlying9
theorem OH:oo Tryz.prog U W 32 (.st 0):=o0 Tryz.underlying32 (by kernel_rfl) (.cons _ _ _ _ _ _ rfl (by kernel_rfl) o3 (.cons _ _ _ _ _ _ rfl (by kernel_rfl) K8 (.nil _))) (fun _=>trivial)
theorem MO:oo Tryz.prog U W 34 (.st 1):=o0 Tryz.underlying34 (by kernel_rfl) (.cons _ _ _ _ _ _ rfl (by kernel_rfl) OH (.cons _ _ _ _ _ _ rfl (by kernel_rfl) o3 (.nil _))) (fun _=>trivial)
theorem OI:oo Tryz.prog U W 36 (.st 2):=o0 Tryz.underlying36 (by kernel_rfl) (.cons _ _ _ _ _ _ rfl (by kernel_rfl) K8 (.cons _ _ _ _ _ _ rfl (by kernel_rfl) o3 (.nil _))) (fun _=>trivial)
theorem OJ(hB:Bs W):oo Tryz.prog U W 37 (.sl (.st 1)):=wk (z:=3) hB Tryz.underlying37 rfl (by kernel_rfl) (by decide) MO
theorem OK(hB:Bs W):oo Tryz.prog U W 39 (.st 3):=o0 Tryz.underlying39 (by kernel_rfl) (.cons _ _ _ _ _ _ rfl (by kernel_rfl) o3 (.cons _ _ _ _ _ _ rfl (by kernel_rfl) o9 (.cons _ _ _ _ _ _ rfl (by kernel_rfl) o2 (.cons _ _ _ _ _ _ rfl (by kernel_rfl) MO (.cons _ _ _ _ _ _ rfl (by kernel_rfl) OI (.cons _ _ _ _ _ _ rfl (by kernel_rfl) (OJ hB) (.nil _))))))) (fun _=>trivial)
theorem OL:oo Tryz.prog U W 41 (.arr 8 (.int .u32)):=zw (z:=1) Tryz.underlying41 rfl (by kernel_rfl) (by kernel_rfl) K8
theorem OM(hB:Bs W):oo Tryz.prog U W 42 (.sl (.st 3)):=wk (z:=9) hB Tryz.underlying42 rfl (by kernel_rfl) (by decide) (OK hB)
end
end Go.Proofs.YtiliglahlfkikaaGreatDoor.V
