/- Numbers that are read; a text cut. -/
import Derived.Test.YtgaelgcadcmfnaaGreatDoorVxePu
import Derived.Test.YtgaelgcadcmfnaaGreatDoorProg
import Derived.Test.YtgaelgcadcmfnaaGreatDoorVxeE
import Derived.Test.YtgaelgcadcmfnaaGreatDoorVvIn
import Derived.Shelf.Strconv.ErrVarParseInt
import Derived.Shelf.Strings.Shaped
set_option linter.all false
namespace Go.Vv
open Go Go.RowKit Go.Proofs Go.Shelf
variable {P:Program} {k:IntKind} {h:AH} {ρ:Ren} {base bits:Int} {res:Int×Bool}
def puTryzRen:Go.Shelf.Ren :=
 { f:=(λx=>match x with | 14=>159 | 16=>187 | 17=>157 | 19=>212 | 20=>213 | 21=>188 | 22=>189 | 23=>190 | 24=>191 | 25=>214 | 26=>215 | 27=>216 | 28=>223 | 29=>103 | 30=>152 | 31=>153 | 32=>154 | 33=>155 | 34=>182 | 35=>183 | 36=>184 | 37=>185 | 38=>186 | 39=>210 | 40=>211 | n=>n),t:=(λx=>match x with | 0=>0 | 2=>2 | 3=>3 | 4=>4 | 5=>5 | 9=>9 | 20=>20 | 21=>21 | 22=>25 | 24=>62 | 25=>203 | 34=>224 | 36=>208 | 37=>56 | 39=>225 | 44=>244 | 47=>104 | 48=>254 | 50=>256 | 52=>196 | 55=>199 | 59=>221 | 60=>26 | 61=>222 | 65=>252 | 66=>253 | 67=>65 | n=>n),g:=(λx=>match x with | 0=>2 | 1=>3 | 2=>1 | 3=>4 | 4=>5 | n=>n) }
theorem puTryzLays:Go.Proofs.LaysPu.n14 Tryz.prog puTryzRen where
 mixed:=by kernel_rfl
 f14:=Tryz.func159.trans (by kernel_rfl)
 f16:=Tryz.func187.trans (by kernel_rfl)
 f17:=Tryz.func157.trans (by kernel_rfl)
 f19:=Tryz.func212.trans (by kernel_rfl)
 f20:=Tryz.func213.trans (by kernel_rfl)
 f21:=Tryz.func188.trans (by kernel_rfl)
 f22:=Tryz.func189.trans (by kernel_rfl)
 f23:=Tryz.func190.trans (by kernel_rfl)
 f24:=Tryz.func191.trans (by kernel_rfl)
 f25:=Tryz.func214.trans (by kernel_rfl)
 f26:=Tryz.func215.trans (by kernel_rfl)
 f27:=Tryz.func216.trans (by kernel_rfl)
 f28:=Tryz.func223.trans (by kernel_rfl)
 f29:=Tryz.func103.trans (by kernel_rfl)
 f30:=Tryz.func152.trans (by kernel_rfl)
 f31:=Tryz.func153.trans (by kernel_rfl)
 f32:=Tryz.func154.trans (by kernel_rfl)
 f33:=Tryz.func155.trans (by kernel_rfl)
 f34:=Tryz.func182.trans (by kernel_rfl)
 f35:=Tryz.func183.trans (by kernel_rfl)
 f36:=Tryz.func184.trans (by kernel_rfl)
 f37:=Tryz.func185.trans (by kernel_rfl)
 f38:=Tryz.func186.trans (by kernel_rfl)
 f39:=Tryz.func210.trans (by kernel_rfl)
 f40:=Tryz.func211.trans (by kernel_rfl)
 t0:=Tryz.underlying0
 a0:=Tryz.isAgg0
 z0:=Tryz.sizeOf0
 v0:=Tryz.zeroValue0
 t2:=Tryz.underlying2
 a2:=Tryz.isAgg2
 z2:=Tryz.sizeOf2
 v2:=Tryz.zeroValue2
 t3:=Tryz.underlying3
 a3:=Tryz.isAgg3
 z3:=Tryz.sizeOf3
 v3:=Tryz.zeroValue3
 t4:=Tryz.underlying4
 a4:=Tryz.isAgg4
 z4:=Tryz.sizeOf4
 v4:=Tryz.zeroValue4
 t5:=Tryz.underlying5
 a5:=Tryz.isAgg5
 z5:=Tryz.sizeOf5
 v5:=Tryz.zeroValue5
 t9:=Tryz.underlying9
 a9:=Tryz.isAgg9
 z9:=Tryz.sizeOf9
 v9:=Tryz.zeroValue9
 t20:=Tryz.underlying20
 a20:=Tryz.isAgg20
 z20:=Tryz.sizeOf20
 v20:=Tryz.zeroValue20
 t21:=Tryz.underlying21
 a21:=Tryz.isAgg21
 z21:=Tryz.sizeOf21
 v21:=Tryz.zeroValue21
 t22:=Tryz.underlying25
 a22:=Tryz.isAgg25
 z22:=Tryz.sizeOf25
 v22:=Tryz.zeroValue25
 t24:=Tryz.underlying62
 a24:=Tryz.isAgg62
 z24:=Tryz.sizeOf62
 v24:=Tryz.zeroValue62
 t25:=Tryz.underlying203
 a25:=Tryz.isAgg203
 z25:=Tryz.sizeOf203
 v25:=Tryz.zeroValue203
 t34:=Tryz.underlying224
 a34:=Tryz.isAgg224
 z34:=Tryz.sizeOf224
 v34:=Tryz.zeroValue224
 t36:=Tryz.underlying208
 a36:=Tryz.isAgg208
 z36:=Tryz.sizeOf208
 v36:=Tryz.zeroValue208
 t37:=Tryz.underlying56
 a37:=Tryz.isAgg56
 z37:=Tryz.sizeOf56
 v37:=Tryz.zeroValue56
 t39:=Tryz.underlying225
 a39:=Tryz.isAgg225
 z39:=Tryz.sizeOf225
 v39:=Tryz.zeroValue225
 t44:=Tryz.underlying244
 a44:=Tryz.isAgg244
 z44:=Tryz.sizeOf244
 v44:=Tryz.zeroValue244
 t47:=Tryz.underlying104
 a47:=Tryz.isAgg104
 z47:=Tryz.sizeOf104
 v47:=Tryz.zeroValue104
 t48:=Tryz.underlying254
 a48:=Tryz.isAgg254
 z48:=Tryz.sizeOf254
 v48:=Tryz.zeroValue254
 t50:=Tryz.underlying256
 a50:=Tryz.isAgg256
 z50:=Tryz.sizeOf256
 v50:=Tryz.zeroValue256
 t52:=Tryz.underlying196
 a52:=Tryz.isAgg196
 z52:=Tryz.sizeOf196
 v52:=Tryz.zeroValue196
 t55:=Tryz.underlying199
 a55:=Tryz.isAgg199
 z55:=Tryz.sizeOf199
 v55:=Tryz.zeroValue199
 t59:=Tryz.underlying221
 a59:=Tryz.isAgg221
 z59:=Tryz.sizeOf221
 v59:=Tryz.zeroValue221
 t60:=Tryz.underlying26
 a60:=Tryz.isAgg26
 z60:=Tryz.sizeOf26
 v60:=Tryz.zeroValue26
 t61:=Tryz.underlying222
 a61:=Tryz.isAgg222
 z61:=Tryz.sizeOf222
 t65:=Tryz.underlying252
 a65:=Tryz.isAgg252
 z65:=Tryz.sizeOf252
 v65:=Tryz.zeroValue252
 t66:=Tryz.underlying253
 a66:=Tryz.isAgg253
 z66:=Tryz.sizeOf253
 v66:=Tryz.zeroValue253
 t67:=Tryz.underlying65
 a67:=Tryz.isAgg65
 z67:=Tryz.sizeOf65
 v67:=Tryz.zeroValue65
 g0:=by kernel_rfl
 g1:=by kernel_rfl
 g2:=by kernel_rfl
 g3:=by kernel_rfl
 g4:=by kernel_rfl
 i0:=by kernel_rfl
 i2:=by kernel_rfl
 i3:=by kernel_rfl
 i4:=by kernel_rfl
 i5:=by kernel_rfl
 i9:=by kernel_rfl
 i20:=by kernel_rfl
 i21:=by kernel_rfl
 i22:=by kernel_rfl
 i24:=by kernel_rfl
 i25:=by kernel_rfl
 i34:=by kernel_rfl
 i36:=by kernel_rfl
 i37:=by kernel_rfl
 i39:=by kernel_rfl
 i44:=by kernel_rfl
 i47:=by kernel_rfl
 i48:=by kernel_rfl
 i50:=by kernel_rfl
 i52:=by kernel_rfl
 i55:=by kernel_rfl
 i59:=by kernel_rfl
 i60:=by kernel_rfl
 i65:=by kernel_rfl
 i66:=by kernel_rfl
 i67:=by kernel_rfl
 m0:=by kernel_rfl
 m1:=by kernel_rfl
 m2:=by kernel_rfl
 m3:=by kernel_rfl
 m4:=by kernel_rfl
 c34:=by kernel_rfl
def piTryzRen:Go.Shelf.Ren :=
 { f:=(λx=>match x with | 129=>183 | 171=>216 | 174=>104 | 205=>215 | 243=>223 | 245=>157 | 246=>103 | 247=>156 | 279=>188 | 280=>189 | 281=>190 | 282=>191 | 283=>152 | 284=>153 | 285=>154 | 286=>155 | 287=>187 | 316=>214 | 317=>182 | 318=>184 | 319=>185 | 320=>186 | 321=>212 | 322=>213 | 337=>210 | 338=>211 | n=>n),t:=(λx=>match x with | 0=>0 | 2=>2 | 3=>3 | 4=>4 | 5=>5 | 9=>9 | 20=>20 | 21=>21 | 37=>56 | 46=>208 | 51=>26 | 53=>25 | 75=>62 | 80=>65 | 85=>146 | 127=>104 | 143=>254 | 145=>256 | 167=>224 | 168=>225 | 171=>196 | 173=>199 | 175=>203 | 210=>244 | 212=>221 | 213=>222 | 232=>252 | 233=>253 | n=>n),g:=(λx=>match x with | 15=>2 | 16=>3 | 17=>1 | 18=>4 | 19=>5 | n=>n) }
theorem piTryzLays:Go.Proofs.LaysC.n174 Tryz.prog piTryzRen where
 mixed:=by kernel_rfl
 f129:=Tryz.func183.trans (by kernel_rfl)
 f171:=Tryz.func216.trans (by kernel_rfl)
 f174:=Tryz.func104.trans (by kernel_rfl)
 f205:=Tryz.func215.trans (by kernel_rfl)
 f243:=Tryz.func223.trans (by kernel_rfl)
 f245:=Tryz.func157.trans (by kernel_rfl)
 f246:=Tryz.func103.trans (by kernel_rfl)
 f247:=Tryz.func156.trans (by kernel_rfl)
 f279:=Tryz.func188.trans (by kernel_rfl)
 f280:=Tryz.func189.trans (by kernel_rfl)
 f281:=Tryz.func190.trans (by kernel_rfl)
 f282:=Tryz.func191.trans (by kernel_rfl)
 f283:=Tryz.func152.trans (by kernel_rfl)
 f284:=Tryz.func153.trans (by kernel_rfl)
 f285:=Tryz.func154.trans (by kernel_rfl)
 f286:=Tryz.func155.trans (by kernel_rfl)
 f287:=Tryz.func187.trans (by kernel_rfl)
 f316:=Tryz.func214.trans (by kernel_rfl)
 f317:=Tryz.func182.trans (by kernel_rfl)
 f318:=Tryz.func184.trans (by kernel_rfl)
 f319:=Tryz.func185.trans (by kernel_rfl)
 f320:=Tryz.func186.trans (by kernel_rfl)
 f321:=Tryz.func212.trans (by kernel_rfl)
 f322:=Tryz.func213.trans (by kernel_rfl)
 f337:=Tryz.func210.trans (by kernel_rfl)
 f338:=Tryz.func211.trans (by kernel_rfl)
 t0:=Tryz.underlying0
 a0:=Tryz.isAgg0
 z0:=Tryz.sizeOf0
 v0:=Tryz.zeroValue0
 t2:=Tryz.underlying2
 a2:=Tryz.isAgg2
 z2:=Tryz.sizeOf2
 v2:=Tryz.zeroValue2
 t3:=Tryz.underlying3
 a3:=Tryz.isAgg3
 z3:=Tryz.sizeOf3
 v3:=Tryz.zeroValue3
 t4:=Tryz.underlying4
 a4:=Tryz.isAgg4
 z4:=Tryz.sizeOf4
 v4:=Tryz.zeroValue4
 t5:=Tryz.underlying5
 a5:=Tryz.isAgg5
 z5:=Tryz.sizeOf5
 v5:=Tryz.zeroValue5
 t9:=Tryz.underlying9
 a9:=Tryz.isAgg9
 z9:=Tryz.sizeOf9
 v9:=Tryz.zeroValue9
 t20:=Tryz.underlying20
 a20:=Tryz.isAgg20
 z20:=Tryz.sizeOf20
 v20:=Tryz.zeroValue20
 t21:=Tryz.underlying21
 a21:=Tryz.isAgg21
 z21:=Tryz.sizeOf21
 v21:=Tryz.zeroValue21
 t37:=Tryz.underlying56
 a37:=Tryz.isAgg56
 z37:=Tryz.sizeOf56
 v37:=Tryz.zeroValue56
 t46:=Tryz.underlying208
 a46:=Tryz.isAgg208
 z46:=Tryz.sizeOf208
 v46:=Tryz.zeroValue208
 t51:=Tryz.underlying26
 a51:=Tryz.isAgg26
 z51:=Tryz.sizeOf26
 v51:=Tryz.zeroValue26
 t53:=Tryz.underlying25
 a53:=Tryz.isAgg25
 z53:=Tryz.sizeOf25
 v53:=Tryz.zeroValue25
 t75:=Tryz.underlying62
 a75:=Tryz.isAgg62
 z75:=Tryz.sizeOf62
 v75:=Tryz.zeroValue62
 t80:=Tryz.underlying65
 a80:=Tryz.isAgg65
 z80:=Tryz.sizeOf65
 v80:=Tryz.zeroValue65
 t85:=Tryz.underlying146
 a85:=Tryz.isAgg146
 z85:=Tryz.sizeOf146
 v85:=Tryz.zeroValue146
 t127:=Tryz.underlying104
 a127:=Tryz.isAgg104
 z127:=Tryz.sizeOf104
 v127:=Tryz.zeroValue104
 t143:=Tryz.underlying254
 a143:=Tryz.isAgg254
 z143:=Tryz.sizeOf254
 v143:=Tryz.zeroValue254
 t145:=Tryz.underlying256
 a145:=Tryz.isAgg256
 z145:=Tryz.sizeOf256
 v145:=Tryz.zeroValue256
 t167:=Tryz.underlying224
 a167:=Tryz.isAgg224
 z167:=Tryz.sizeOf224
 v167:=Tryz.zeroValue224
 t168:=Tryz.underlying225
 a168:=Tryz.isAgg225
 z168:=Tryz.sizeOf225
 v168:=Tryz.zeroValue225
 t171:=Tryz.underlying196
 a171:=Tryz.isAgg196
 z171:=Tryz.sizeOf196
 v171:=Tryz.zeroValue196
 t173:=Tryz.underlying199
 a173:=Tryz.isAgg199
 z173:=Tryz.sizeOf199
 v173:=Tryz.zeroValue199
 t175:=Tryz.underlying203
 a175:=Tryz.isAgg203
 z175:=Tryz.sizeOf203
 v175:=Tryz.zeroValue203
 t210:=Tryz.underlying244
 a210:=Tryz.isAgg244
 z210:=Tryz.sizeOf244
 v210:=Tryz.zeroValue244
 t212:=Tryz.underlying221
 a212:=Tryz.isAgg221
 z212:=Tryz.sizeOf221
 v212:=Tryz.zeroValue221
 t213:=Tryz.underlying222
 a213:=Tryz.isAgg222
 z213:=Tryz.sizeOf222
 t232:=Tryz.underlying252
 a232:=Tryz.isAgg252
 z232:=Tryz.sizeOf252
 v232:=Tryz.zeroValue252
 t233:=Tryz.underlying253
 a233:=Tryz.isAgg253
 z233:=Tryz.sizeOf253
 v233:=Tryz.zeroValue253
 g15:=by kernel_rfl
 g16:=by kernel_rfl
 g17:=by kernel_rfl
 g18:=by kernel_rfl
 g19:=by kernel_rfl
 i0:=by kernel_rfl
 i2:=by kernel_rfl
 i3:=by kernel_rfl
 i4:=by kernel_rfl
 i5:=by kernel_rfl
 i9:=by kernel_rfl
 i20:=by kernel_rfl
 i21:=by kernel_rfl
 i37:=by kernel_rfl
 i46:=by kernel_rfl
 i51:=by kernel_rfl
 i53:=by kernel_rfl
 i75:=by kernel_rfl
 i80:=by kernel_rfl
 i85:=by kernel_rfl
 i127:=by kernel_rfl
 i143:=by kernel_rfl
 i145:=by kernel_rfl
 i167:=by kernel_rfl
 i168:=by kernel_rfl
 i171:=by kernel_rfl
 i173:=by kernel_rfl
 i175:=by kernel_rfl
 i210:=by kernel_rfl
 i212:=by kernel_rfl
 i232:=by kernel_rfl
 i233:=by kernel_rfl
 m15:=by kernel_rfl
 m16:=by kernel_rfl
 m17:=by kernel_rfl
 m18:=by kernel_rfl
 m19:=by kernel_rfl
 c0:=by kernel_rfl
 c2:=by kernel_rfl
 c3:=by kernel_rfl
 c4:=by kernel_rfl
 c5:=by kernel_rfl
 c9:=by kernel_rfl
 c20:=by kernel_rfl
 c21:=by kernel_rfl
 c37:=by kernel_rfl
 c46:=by kernel_rfl
 c51:=by kernel_rfl
 c53:=by kernel_rfl
 c75:=by kernel_rfl
 c80:=by kernel_rfl
 c85:=by kernel_rfl
 c127:=by kernel_rfl
 c143:=by kernel_rfl
 c145:=by kernel_rfl
 c167:=by kernel_rfl
 c168:=by kernel_rfl
 c171:=by kernel_rfl
 c173:=by kernel_rfl
 c175:=by kernel_rfl
 c210:=by kernel_rfl
 c212:=by kernel_rfl
 c213:=by kernel_rfl
 c232:=by kernel_rfl
 c233:=by kernel_rfl
theorem spec_num {f:FuncId} {T:TypeId} {n:Int} {b:Bool} {args:List AV} {vals:List Value} (hv:∀(g:Gh) (vs:List Value),VL g args vs->vs=vals) (he:∀vs w,(callFunc f vs).run P w=.ok (.enter f vs) w)
  (hc:∀w,laid P w->Calls P f vals.toArray w λe w'=>(∃v,e=.returned (.tuple #[.int k n,v])/\if b=true then v=.nilIface else ∃u,v=.iface T u/\u.oneCell'=true)/\Below w.heap.size w w'):Spec P f args h (λrr hh=>rr=.tup [.int k n,errv T b]/\hh=h):=by
 refine ⟨he,λB w0 G g w vs r hvs=>?_⟩;have e:=hv g _ hvs;have e2:vs=vals.toArray:=by rw [<- e]
 subst e2;refine (hc w (laid_below G.lay G.sz r.below)).mono ?_
 rintro e w' ⟨⟨v,rfl,hq⟩,hw⟩
 refine ⟨_,_,h,g,rfl,⟨rfl,rfl⟩,Gh.le.refl g,r.beyond hw,?_⟩;cases b with
 | true =>
  obtain rfl:v=.nilIface:=hq;simp only [V,VL,errv];exact ⟨_,rfl,_,_,rfl,rfl,_,_,rfl,rfl,rfl⟩
 | false =>
  obtain ⟨u,rfl,hu⟩:∃u,v=.iface T u/\u.oneCell'=true:=hq;simp only [V,VL,errv];exact ⟨_,rfl,_,_,rfl,rfl,_,_,rfl,⟨u,rfl,hu⟩,rfl⟩
theorem VL_sii {s:List UInt8} {k':IntKind} {a b:Int} (g:Gh) (vs:List Value) (h:VL g [.str s,.int k a,.int k' b] vs):vs=[.string ⟨s.toArray⟩,.int k a,.int k' b]:=by
 simp only [VL,V] at h;obtain ⟨_,_,rfl,⟨rfl,_⟩,_,_,rfl,rfl,_,_,rfl,rfl,rfl⟩:=h;rfl
theorem bytesW_below {w w':World} {t:TypeId} {s:ByteArray} (h:w'=w \/ w'=Lib.bytesWorld w t s):Below w.heap.size w w':=by
 rcases h with rfl | rfl
 ·exact Below.refl _ _
 ·exact Lib.bytesWorld_below _ _ _
def puR (s:List UInt8):Int×Bool:=match Lib.parseUintB 64 s with
 | .ok u=>(u,true)
 | .range=>(18446744073709551615,false)
 | _=>(0,false)
def phR (a b:UInt8):Int×Bool:=match hexv a,hexv b with
 | some x,some y=>((16 * x+y:Nat),true)
 | _,_=>(0,false)
def parseU (s:List UInt8) (base bits:Int):Option (Int×Bool) :=
 if base=10/\bits=64 then (if s.length<=281474976710656 then some (puR s) else none)
 else if base=16/\bits=8 then (match s with
  | [a,b]=>some (phR a b)
  | _=>none)
 else none
def piR (s:List UInt8):Int×Bool:=match Lib.parseIntB 64 s with
 | .ok u=>(u,true)
 | .range=>(Lib.intSat 64 s,false)
 | _=>(0,false)
def parseI (s:List UInt8) (base bits:Int):Option (Int×Bool) :=
 if base=10/\bits=64/\s.length<=281474976710656 then some (piR s) else none
theorem parse16 (L:LaysPu.n14 P ρ) (a b:UInt8) (w:World) (hS:∃t p,w.cell? ⟨ρ.g 0,0,none⟩=some (.iface t p)) :
  Calls P (ρ.f 14) #[.string ⟨#[a,b]⟩,.int .i64 16,.int .i64 8] w λe w'=>(∃v,e=.returned (.tuple #[.int .u64 (phR a b).1,v])/\if (phR a b).2=true then v=.nilIface else ∃u,v=.iface (ρ.t 39) u/\u.oneCell'=true)/\Below w.heap.size w w':=by
 obtain ⟨ts,ps,hv⟩:=hS;have mixed:=L.mixed;have t9:=L.t9;have a9:=L.a9;have z9:=L.z9;have v9:=L.v9;have t3:=L.t3;have a3:=L.a3;have z3:=L.z3;have v3:=L.v3;have t22:=L.t22;have a22:=L.a22;have z22:=L.z22;have v22:=L.v22;have t24:=L.t24;have a24:=L.a24;have z24:=L.z24;have v24:=L.v24;have t25:=L.t25;have a25:=L.a25;have z25:=L.z25;have v25:=L.v25;have t4:=L.t4;have a4:=L.a4;have z4:=L.z4;have v4:=L.v4;have e16:∀args w,(callFunc (ρ.f 16) args).run P w=.ok (.enter (ρ.f 16) args) w:=enters_of L.f16 (by kernel_rfl) rfl;have e17:∀args w,(callFunc (ρ.f 17) args).run P w=.ok (.enter (ρ.f 17) args) w:=enters_of L.f17 (by kernel_rfl) rfl;have hG:(ρ.g 0) < w.heap.size:=Lib.lt_of_cell hv;have hI:=pu16 { L with } a b w;by_cases hok:∃x y,hexv a=some x/\hexv b=some y
 ·obtain ⟨x,y,hx,hy⟩:=hok;have eR:phR a b=(((16 * x+y:Nat):Int),true):=by unfold phR;rw [hx,hy]
  have eI:pu16R (ρ.t 34) a b=.tuple #[.int .u64 (16 * x+y:Nat),.nilIface]:=by unfold pu16R;rw [hx,hy]
  rw [eI] at hI;rw [eR];generalize ((16 * x+y:Nat):Int)=n at hI ⊢;clear hx hy eR eI
  go_enter L.f14,BodyPu.n14_ntmps ρ
  go_wp2_with (go_at_fn (ρ.f 16);refine hI.mono ?_)
  rintro e W1 ⟨rfl,rfl⟩
  go_wp2
  go_ret2
  refine ⟨?_,Lib.bytesWorld_below _ _ _⟩
  first
   | exact ⟨_,rfl,rfl⟩
   | rfl
   | simp
 ·have eR:phR a b=(0,false):=by
   unfold phR;cases hx:hexv a <;> cases hy:hexv b <;> simp_all
  have eI:pu16R (ρ.t 34) a b=.tuple #[.int .u64 0,.iface (ρ.t 34) (.int .i64 2)]:=by
   unfold pu16R;cases hx:hexv a <;> cases hy:hexv b <;> simp_all
  rw [eI] at hI;rw [eR];clear hok eR eI
  go_enter L.f14,BodyPu.n14_ntmps ρ
  go_wp2_with (go_at_fn (ρ.f 16);refine hI.mono ?_)
  rintro e W1 ⟨rfl,hW⟩
  have hb1:Below w.heap.size w W1:=by rw [hW];exact Lib.bytesWorld_below _ _ _
  have hv1:W1.cell? ⟨(ρ.g 0),0,none⟩=some (.iface ts ps):=(hb1.cell (show (⟨(ρ.g 0),0,none⟩:Addr).block < w.heap.size from hG)).trans hv;clear hW
  go_wp2_with (go_at_fn (ρ.f 17);refine (AnyPu.strconv_toError_syntax { L with } ⟨#[80,97,114,115,101,85,105,110,116]⟩ ⟨#[a,b]⟩ 16 8 (.iface ts ps) _ (show 2<=281474976710656 by omega) ?_ (.inr ⟨ts,ps,rfl⟩)).mono ?_)
  ·exact hv1
  rintro e W2 ⟨N,rfl,h1,h2,h3⟩
  go_wp2
  go_ret2
  refine ⟨⟨_,rfl,?_⟩,hb1.trans (h3.mono hb1.size)⟩;exact ⟨_,rfl,rfl⟩
theorem parse10 (L:LaysPu.n14 P ρ) (s:List UInt8) (hs:s.length<=281474976710656) (w:World) (hS:∃t p,w.cell? ⟨ρ.g 0,0,none⟩=some (.iface t p)) (hR:∃t p,w.cell? ⟨ρ.g 1,0,none⟩=some (.iface t p)) :
  Calls P (ρ.f 14) #[.string ⟨s.toArray⟩,.int .i64 10,.int .i64 64] w λe w'=>(∃v,e=.returned (.tuple #[.int .u64 (puR s).1,v])/\if (puR s).2=true then v=.nilIface else ∃u,v=.iface (ρ.t 39) u/\u.oneCell'=true)/\Below w.heap.size w w':=by
 have hz:(⟨s.toArray⟩:ByteArray).size=s.length:=by simp [ByteArray.size]
 have hd:(⟨s.toArray⟩:ByteArray).data.toList=s:=by simp
 cases h:Lib.parseUintB 64 s with
 | ok u =>
  have e:puR s=((u:Int),true):=by unfold puR;rw [h]
  rw [e];refine (Any.strconv_ParseUint_10_at64_ok L ⟨s.toArray⟩ (by omega) u (by rw [hd];exact h) w).mono ?_
  rintro e w' ⟨rfl,hw⟩
  exact ⟨⟨_,rfl,rfl⟩,bytesW_below hw⟩
 | range =>
  have e:puR s=(18446744073709551615,false):=by unfold puR;rw [h]
  rw [e];obtain ⟨ts,ps,hv⟩:=hR;refine (Any.strconv_ParseUint_10_at64_range L ⟨s.toArray⟩ (by omega) (by rw [hd];exact h) _ w hv (.inr ⟨ts,ps,rfl⟩)).mono ?_
  rintro e w' ⟨N,rfl,_,_,hw⟩
  exact ⟨⟨_,rfl,_,rfl,rfl⟩,hw⟩
 | _ =>
  have e:puR s=(0,false):=by unfold puR;rw [h]
  rw [e];obtain ⟨ts,ps,hv⟩:=hS;refine (Any.strconv_ParseUint_10_at64_syntax L ⟨s.toArray⟩ (by omega) (by rw [hd];exact h) _ w hv (.inr ⟨ts,ps,rfl⟩)).mono ?_
  rintro e w' ⟨N,rfl,_,_,hw⟩
  exact ⟨⟨_,rfl,_,rfl,rfl⟩,hw⟩
theorem parseI10 (L:LaysC.n174 P ρ) (s:List UInt8) (hs:s.length<=281474976710656) (w:World) (hS:∃t p,w.cell? ⟨ρ.g 15,0,none⟩=some (.iface t p)) (hR:∃t p,w.cell? ⟨ρ.g 16,0,none⟩=some (.iface t p)) :
  Calls P (ρ.f 174) #[.string ⟨s.toArray⟩,.int .i64 10,.int .i64 64] w λe w'=>(∃v,e=.returned (.tuple #[.int .i64 (piR s).1,v])/\if (piR s).2=true then v=.nilIface else ∃u,v=.iface (ρ.t 168) u/\u.oneCell'=true)/\Below w.heap.size w w':=by
 have hz:(⟨s.toArray⟩:ByteArray).size=s.length:=by simp [ByteArray.size]
 have hd:(⟨s.toArray⟩:ByteArray).data.toList=s:=by simp
 cases h:Lib.parseIntB 64 s with
 | ok u =>
  have e:piR s=(u,true):=by unfold piR;rw [h]
  rw [e];refine (Any.strconv_ParseInt_10_at64_ok L ⟨s.toArray⟩ (by omega) u (by rw [hd];exact h) w).mono ?_
  rintro e w' ⟨rfl,hw⟩
  refine ⟨⟨_,rfl,rfl⟩,?_⟩;rcases hw with rfl | ⟨t,rfl⟩
  ·exact Below.refl _ _
  ·exact Lib.bytesWorld_below _ _ _
 | range =>
  have e:piR s=(Lib.intSat 64 s,false):=by unfold piR;rw [h]
  rw [e];obtain ⟨ts,ps,hv⟩:=hR;refine (Any.strconv_ParseInt_10_at64_range L ⟨s.toArray⟩ (by omega) (by rw [hd];exact h) _ w hv (.inr ⟨ts,ps,rfl⟩)).mono ?_
  rintro e w' ⟨N,rfl,_,_,hw⟩
  rw [hd];exact ⟨⟨_,rfl,_,rfl,rfl⟩,hw⟩
 | _ =>
  have e:piR s=(0,false):=by unfold piR;rw [h]
  rw [e];obtain ⟨ts,ps,hv⟩:=hS;refine (Any.strconv_ParseInt_10_at64_syntax L ⟨s.toArray⟩ (by omega) (by rw [hd];exact h) _ w hv (.inr ⟨ts,ps,rfl⟩)).mono ?_
  rintro e w' ⟨N,rfl,_,_,hw⟩
  exact ⟨⟨_,rfl,_,rfl,rfl⟩,hw⟩
theorem spec_parseU {s:List UInt8} (hF:parseU s base bits=some res):Spec Tryz.prog 159 [.str s,.int .i64 base,.int .i64 bits] h (λrr hh=>rr=.tup [.int .u64 res.1,errv 225 res.2]/\hh=h):=by
 unfold parseU at hF;split at hF
 ·rename_i hc;obtain ⟨rfl,rfl⟩:=hc;split at hF
  case isFalse=>cases hF
  rename_i hs;injection hF with hF;subst hF;exact spec_num VL_sii (enters_of Tryz.func159 (by kernel_rfl) rfl) λw hl=>parse10 puTryzLays s hs w hl.2.2.1 hl.2.2.2
 ·split at hF
  case isFalse=>cases hF
  rename_i hc;obtain ⟨rfl,rfl⟩:=hc;split at hF
  case h_2=>cases hF
  injection hF with hF;subst hF;exact spec_num VL_sii (enters_of Tryz.func159 (by kernel_rfl) rfl) λw hl=>parse16 puTryzLays _ _ w hl.2.2.1
theorem spec_parseI {s:List UInt8} (hF:parseI s base bits=some res):Spec Tryz.prog 104 [.str s,.int .i64 base,.int .i64 bits] h (λrr hh=>rr=.tup [.int .i64 res.1,errv 225 res.2]/\hh=h):=by
 unfold parseI at hF;split at hF
 case isFalse=>cases hF
 rename_i hc;obtain ⟨rfl,rfl,hs⟩:=hc;injection hF with hF;subst hF;exact spec_num VL_sii (enters_of Tryz.func104 (by kernel_rfl) rfl) λw hl=>parseI10 piTryzLays s hs w hl.2.2.1 hl.2.2.2
def strCut (s sep:List UInt8):Option (List UInt8×List UInt8×Bool):=if s.length < 4294967281 then some (Lib.cut s sep) else none
theorem spec_cut (L:LaysM.n145 P ρ) {s sep:List UInt8} {res:List UInt8×List UInt8×Bool} {h:AH} (hF:strCut s sep=some res) :
  Spec P (ρ.f 145) [.str s,.str sep] h (λrr hh=>rr=.tup [.str res.1,.str res.2.1,.bool res.2.2]/\hh=h):=by
 unfold strCut at hF;split at hF
 case isFalse=>cases hF
 rename_i hs;injection hF with hF;subst hF;refine ⟨enters_of L.f145 (by kernel_rfl) rfl,λB w0 G g w vs r hv=>?_⟩;obtain ⟨us,rfl⟩:∃us:List Value,vs=us.toArray:=⟨vs.toList,by simp⟩
 simp only [VL,V] at hv;obtain ⟨v1,s1,e1,⟨rfl,hl1⟩,v2,s2,rfl,⟨rfl,hl2⟩,rfl⟩:=hv
 try simp at e1
 subst e1;obtain ⟨m,hm⟩:=L.s1_3 w0 G.sh;have hm':=below_cell hm G.sz r.below;refine (Any.strings_Cut { L with } ⟨s.toArray⟩ ⟨sep.toArray⟩ m w (by simpa [ByteArray.size] using hs) hm').mono λe w' ⟨he,n,hw⟩=>?_;subst he hw;have l1:(Lib.cut s sep).1.length<=s.length/\(Lib.cut s sep).2.1.length<=s.length:=by
  unfold Lib.cut;split
  ·simp only [List.length_take,List.length_drop];omega
  ·simp
 refine ⟨_,_,h,g,rfl,⟨rfl,rfl⟩,Gh.le.refl g,r.beyond ⟨rfl,rfl,rfl,Nat.le_refl _,λ_ _=>rfl⟩,?_⟩;simp only [V,VL];exact ⟨_,rfl,_,_,rfl,⟨rfl,by omega⟩,_,_,rfl,⟨rfl,by omega⟩,_,_,rfl,rfl,rfl⟩
end Go.Vv
