/- Each function that the law reaches computes what its reading says; printed by a program. -/
import Derived.Test.YtcdgimmdofbjdaaGreatW10
set_option linter.all false
open List renaming length→ak
namespace Go.Vv
open Go Go.Proofs
set_option maxRecDepth 100000
set_option synthInstance.maxSize 100000
set_option synthInstance.maxHeartbeats 1000000
set_option maxHeartbeats 1000000
theorem ok4{b0:GL}{l1:(List GI)}{ii2:Int}{k3:Int}{res:Bool}{h:AH}(a:xi b0 l1 ii2 k3=some res):Sp 4 [nV b0,yM l1,.int .u8 ii2,.int .u8 k3] h (yb (.bool res) h):=by
 unfold xi at a;refine xb Tryz.func4 149 ?_;refine zd a (λv1 hv1 a=>zoG (α:=Unit) (β:=List (GA×GI)×Int×(List GA)×(List GA)×Int×(List GC)×(List GA)×Int×(List GA)×(List GA)×Int×(List GC)×(List GI)) (X:=Unit) (Y:=Unit) (vA:=λv1a=>.fl [.er,.er,.bool false]) (vB:=λc=>.fl [.ptr (ak h.zh+4) 0,.ptr (ak h.zh+5) 0,.bool true]) (HA:=λv1a _=>h.ext [.cells (GL.row b0)] []) (HB:=λc _=>h.ext [.cells (GL.row b0),.dead,.dead,.q7 (c.1.map (zZ (λx=>zn x) (λx=>zq x))) 0,.cells [.int .u64 c.2.1,zb c.2.2.1,zb c.2.2.2.1,.int .u64 c.2.2.2.2.1,za c.2.2.2.2.2.1,.map (ak h.zh+3),zb c.2.2.2.2.2.2.1],.cells [.int .u64 c.2.2.2.2.2.2.2.1,zb c.2.2.2.2.2.2.2.2.1,zb c.2.2.2.2.2.2.2.2.2.1,.int .u64 c.2.2.2.2.2.2.2.2.2.2.1,za c.2.2.2.2.2.2.2.2.2.2.2.1,yM c.2.2.2.2.2.2.2.2.2.2.2.2]] []) a rfl (ye rfl rfl rfl f9.o fZ.o) ?_ (λ_=>ss) (λ_=>ss) (λv1a _ a=>?_) (λc _ a=>?_))
 ·replace a:=hv1;refine df Tryz.func5 71 ?_;refine xP λhn554=>dE λhn555=>R.r ?_;refine cG a (λ_=>zy5) λv556 a=>cG a (λ_=>zy4) λv557 a=>cF a (λhc558 a=>?_) (λhc558 a=>?_)
  ·obtain rfl:=oi a;refine fr rfl (wv (yH (by simp[zB,AV.low]) rfl rfl (by simp[q6.low,zB,AV.low])) ?_);exact .inl ⟨_,(),rfl,rfl,rfl⟩
  ·refine zd a (λb hv559 a=>yP (X:=Unit) (v:=.fl [.ptr (ak h.zh+4) 0,.int .i64 (0:Int)]) (H':=λ_=>h.ext [.cells (GL.row b0),.cells (GL.row b0),.dead,.q7 (b.1.map (zZ (λx=>zn x) (λx=>zq x))) 0,.cells [.int .u64 b.2.1,zb b.2.2.1,zb b.2.2.2.1,.int .u64 b.2.2.2.2.1,za b.2.2.2.2.2.1,.map (ak h.zh+3),zb b.2.2.2.2.2.2]] []) rfl (ye rfl rfl rfl f9.o fZ.o) ?_ ss (λ_=>?_))
   ·replace a:=hv559;refine df Tryz.func29 15 ?_;refine cB a (λ_=>zxz) λv563 a=>si gg a (λhc564 a=>?_) (λhc564 a=>?_)
    ·cases a
    ·apply R.r;refine cB a (λ_=>zvz) λv565 a=>zO (tS (n:=3) rfl rfl) ?_;refine zO sb ?_;obtain rfl:=oi a;refine fr rfl (wv ((qy (by exact(.g8 (.g8 (.dead (.g8 (.g8 .nil))))))).wk) ?_);exact⟨rfl,(),rfl⟩
   ·apply R.r;refine zO sb ?_;refine xP λhn566=>qg (h0:=wk.trans (zd5 (j:=5) rfl (by exact(.eq (.eq (.eq (.eq (.eq (.cons (g6.gW _ _ _) fc.nil))))))) rfl rfl) (wk.le (by exact(.d4 (.drop (.drop (.drop (.eq (.drop (.eq (.d16 (.d4 (.d4 (.d4 (.drop (.eq (.eq (.cons (g6.of_eq rfl) (.d16 (.d4 (.d4 (.d4 (.drop fc.nil))))))))))))))))))))))) (λ(n1:Nat)(l:List (GA×GI)×(List GA)×(List GI))=>zo 0 7 (zo 10 29 (zo 42 29 [(8,.any),(41,.int .i64 (n1:Int))]))) (λl=>h.ext [.cells (GL.row b0),.cells (GL.row b0),.dead,.q7 (l.1.map (zZ (λx=>zn x) (λx=>zq x))) 0,.cells [.int .u64 b.2.1,zb b.2.2.1,zb b.2.2.2.1,.int .u64 b.2.2.2.2.1,za b.2.2.2.2.2.1,.map (ak h.zh+3),zb l.2.1],.cells [.int .u64 b0.num,zb b0.f,zb b0.fb,.int .u64 b0.time,za b0.tree,yM l.2.2]] []) a (λn1 l hi1 a=>cL a (λk o1 hl1 hx1 a hK1=>?_) (λa=>?_))
    ·refine ix (zu hx1) (R.r ?_);refine xP λhn849=>dE λhn850=>R.r ?_;refine dE λhn851=>R.r ?_;refine cF a (λhc852 a=>?_) (λhc852 a=>?_)
     ·cases a;replace a:=hK1;apply R.r;obtain rfl:=oi a;refine fr rfl (wv (yH (by simp[zB,AV.low]) rfl rfl (by simp[q6.low,zB,AV.low,GA.row,GI.row,zZ])) ?_);exact .inl ⟨_,(),rfl,rfl,rfl⟩
     ·refine zd a (λd hv853 a=>yP (X:=Unit) (v:=.int .i64 d.1) (H':=λ_=>h.ext [.cells (GL.row b0),.cells (GL.row b0),.dead,.q7 (d.2.1.map (zZ (λx=>zn x) (λx=>zq x))) 0,.cells [.int .u64 b.2.1,zb b.2.2.1,zb b.2.2.2.1,.int .u64 b.2.2.2.2.1,za b.2.2.2.2.2.1,.map (ak h.zh+3),zb d.2.2],.cells [.int .u64 b0.num,zb b0.f,zb b0.fb,.int .u64 b0.time,za b0.tree,yM l.2.2],.cells (GI.row k)] []) rfl (ye rfl rfl rfl f9.o fZ.o) ?_ ss (λ_=>?_))
      ·replace a:=hv853;refine df Tryz.func30 87 ?_;refine cB a (λ_=>zp3 (yJ rfl rfl) (yJ rfl rfl)) λv897 a=>cF a (λhc898 a=>?_) (λhc898 a=>?_)
       ·exact ZO
       ·refine cB a (λ_=>zvu) λv899 a=>cF a (λhc900 a=>?_) (λhc900 a=>?_)
        ·exact ZO
        ·refine cB a (λ_=>zvt (yJ rfl rfl) (yJ rfl rfl)) λv901 a=>cF a (λhc902 a=>?_) (λhc902 a=>?_)
         ·exact ZO
         ·refine cB a (λ_=>zxy (yJ rfl rfl) (yJ rfl rfl)) λv903 a=>zt rfl mF ss ?_;refine zt rfl (xJ rfl gg (zc rfl)) ss ?_;refine yB (wt (wr (mo ?_)));refine zee (λ(s2:Bool)=>zo 0 2 (zo 7 23 (zo 31 56 [(4,.any),(30,.bool s2)]))) (λs2=>h.ext [.cells (GL.row b0),.cells (GL.row b0),.dead,.q7 (l.1.map (zZ (λx=>zn x) (λx=>zq x))) 0,.cells [.int .u64 b.2.1,zb b.2.2.1,zb b.2.2.2.1,.int .u64 b.2.2.2.2.1,za b.2.2.2.2.2.1,.map (ak h.zh+3),zb l.2.1],.cells [.int .u64 b0.num,zb b0.f,zb b0.fb,.int .u64 b0.time,za b0.tree,yM l.2.2],.cells (GI.row k),.cells [.ptr (ak h.zh+4) 0],.cells (GI.row k),.cells [.int .u8 k.z6.zi.fk,.int .u32 k.z6.zi.inc,.int .u64 (IntKind.wrap .u64 (k.z6.seq-(1:Int)))]] []) a (λ_=>UE) (λo2 a hK2=>?_) (λs2 a=>?_)
          ·apply R.r;refine cB a (λ_=>zuy (λ_ v L M hv=>zuz (vI (j:=4) rfl) (vI (j:=3) rfl) (vI (j:=7) rfl) hv)) λv926 a=>cF a (λhc927 a=>?_) (λhc927 a=>?_)
           ·refine sj ?_;exact ZL
           ·refine qQ a (λv928 hv928 a=>?_);refine vr rfl cg (λhb=>zuz (yJ rfl rfl) (yJ rfl rfl) (yJ rfl rfl) (hv928 hb)) ss (R.r ?_);refine cF a (λW a=>?_) (λW a=>?_)
            ·refine sj ?_;exact ZL
            ·refine cB a (λ_=>zrb) λv930 a=>sj ?_;exact ZL
          ·refine cF a (λhc931 a=>?_) (λhc931 a=>?_)
           ·exact ZO
           ·refine cB a (λ_=>zrb) λv932 a=>cG a (λ_=>zxx (yJ rfl rfl) (yJ rfl rfl)) λv933 a=>cF a (λhc934 a=>?_) (λhc934 a=>?_)
            ·exact ZO
            ·refine zcj (m:=l.1) (j:=3) (kv:=(λx=>zn x)) (vv:=(λx=>zq x)) rfl rfl rfl rfl rfl Tryz.underlying115 gg rfl ss (R.r ?_);refine cF a (λV a=>?_) (λV a=>?_)
             ·exact ZO
             ·refine dr [7] ?_;refine zd a (λv937 hv937 a=>yV rfl rfl (λ_=>sc rfl) (by rintro _ ⟨B2,T2,rfl,i⟩;exact zuB hv937) ss ?_);refine qs (mP Tryz.underlying115 bP) ?_;refine dr [7] ?_;refine cM a (λ_ e _=>zs7 e) λv938 a=>qs fN.out ?_;exact ZO
      ·apply R.r;refine zd a (λU hv939 a=>yP (X:=Unit) (v:=.int .i64 U.1) (H':=λ_=>h.ext [.cells (GL.row b0),.cells (GL.row b0),.dead,.q7 (d.2.1.map (zZ (λx=>zn x) (λx=>zq x))) 0,.cells [.int .u64 b.2.1,zb b.2.2.1,zb b.2.2.2.1,.int .u64 b.2.2.2.2.1,za b.2.2.2.2.2.1,.map (ak h.zh+3),zb d.2.2],.cells [.int .u64 b0.num,zb b0.f,zb b0.fb,.int .u64 b0.time,za b0.tree,yM U.2],.cells (GI.row k)] []) rfl (ye rfl rfl rfl f9.o fZ.o) ?_ ss (λ_=>?_))
       ·replace a:=hv939;refine df Tryz.func31 106 ?_;refine cB a (λ_=>zyT) λv1022 a=>cF a (λA a=>?_) (λA a=>?_)
        ·exact ZO
        ·refine cB a (λ_=>zvs (yJ rfl rfl)) λv1024 a=>cF a (λF a=>?_) (λF a=>?_)
         ·exact ZO
         ·refine cB a (λ_=>zyS (yJ rfl rfl)) λv1026 a=>cF a (λK a=>?_) (λK a=>?_)
          ·exact ZO
          ·refine cB a (λ_=>zyR (yJ rfl rfl)) λv1028 a=>cF a (λu a=>?_) (λu a=>?_)
           ·exact ZO
           ·refine xP λhn1030=>cF a (λD a=>?_) (λD a=>?_)
            ·exact ZO
            ·refine xl (λ(s2:Int)=>zo 1 2 (zo 4 2 (zo 7 99 [(6,.int .i64 s2)]))) (λs2=>h.ext [.cells (GL.row b0),.cells (GL.row b0),.dead,.q7 (d.2.1.map (zZ (λx=>zn x) (λx=>zq x))) 0,.cells [.int .u64 b.2.1,zb b.2.2.1,zb b.2.2.2.1,.int .u64 b.2.2.2.2.1,za b.2.2.2.2.2.1,.map (ak h.zh+3),zb d.2.2],.cells [.int .u64 b0.num,zb b0.f,zb b0.fb,.int .u64 b0.time,za b0.tree,yM l.2.2],.cells (GI.row k),.cells (GI.row k),.cells [.int .u8 k.z6.zi.fk,.int .u32 k.z6.zi.inc,.int .u64 (IntKind.wrap .u64 (k.z6.seq-(1:Int)))]] []) a (λ_=>UE) (wk.le ej.o) ?_;intro n2 s2 o2 a hK2;apply R.r;refine dr [] ?_;refine qG rfl rfl (wj rfl rfl rfl rfl zqh gg vO) ss (R.r ?_);refine zJ a (λJ a=>qd J (R.r ?_));refine zJ a (λs a=>qd s (R.r ?_));refine zJ a (λI a=>qd I (R.r ?_));refine cH a (λ_=>zp1) λv1091 a=>cF a (λG a=>?_) (λG a=>?_)
             ·exact ZL
             ·cases a;replace a:=hK2;apply R.r;refine zO (bs (([]:List GI).map GI.row)) ?_;refine zd a (λm1098 C a=>zO (qU rfl zqh gg (.inl rfl) .none (.some gg) C) ?_);refine zJ a (λH a=>zO (eN H) ?_);refine zO (bs (([k]:List GI).map GI.row)) ?_;refine zJ a (λt a=>zO (eT t) ?_);refine zd a (λm1101 z a=>zO (qU rfl zqh gg (.inl rfl) (.some gg) .none z) ?_);refine zJ a (λS a=>zO (eT S) ?_);obtain rfl:=oi a;refine fr rfl (wv (wk.trans (zd5 (j:=5) rfl (by exact(.eq (.eq (.eq (.eq (.eq (.cons (g6.gW _ _ _) fc.nil))))))) rfl rfl) (yH (by simp[zB,AV.low]) rfl rfl (by simp[q6.low,zB,AV.low,GA.row,GI.row,zZ]))) ?_);exact⟨rfl,(),rfl⟩
       ·apply R.r;exact ZL
    ·obtain rfl:=oi a;refine fr rfl (wv ((qy (by exact(.g8 (.dead (.g8 (.g8 (.g8 (.g8 .nil)))))))).wk) ?_);exact .inr ⟨_,(),rfl,rfl,rfl⟩
 ·refine zt rfl (yS rfl rfl (zc rfl)) (sx 24) ?_;refine zt rfl (xI rfl rfl rfl (zc rfl)) (sx 28) ?_;refine zt rfl (xI rfl rfl rfl (zc rfl)) (sx 29) ?_;refine zt rfl (xI rfl rfl rfl (zc rfl)) (sx 30) ?_;refine zt rfl (xJ rfl rfl (zc rfl)) (sx 9) ?_;refine zt rfl (xJ rfl rfl (zc rfl)) (sx 10) ?_;refine zt rfl (xJ rfl rfl (zc rfl)) (sx 11) ?_;refine yB (wt (wr (wr (yF ?_))));refine zt rfl (yS rfl rfl (zc rfl)) (sx 31) ?_;refine zt rfl (zu7 rfl rfl rfl) (sx 32) ?_;refine zt rfl (yS rfl rfl (zc rfl)) (sx 33) ?_;refine uU (ze4 rfl rfl rfl) (sx 34) ?_;refine uU (ze4 rfl rfl rfl) (sx 35) ?_;refine uU (ze4 rfl rfl rfl) (sx 36) ?_;refine uU (ze4 rfl rfl rfl) (sx 37) ?_;refine uU (ze4 rfl rfl rfl) (sx 38) ?_;refine uU (ze4 rfl rfl rfl) (sx 39) ?_;refine zt rfl (zlZ rfl rfl rfl rfl rfl) (sk (sx 0)) (R.r ?_);refine c1 ?_;refine cB a (λ_=>ok6) λv1103 a=>?_;exact Z
 ·refine zt rfl (yS rfl rfl (zc rfl)) (sx 24) ?_;refine zt rfl (xI rfl rfl rfl (zc rfl)) (sx 28) ?_;refine zt rfl (xI rfl rfl rfl (zc rfl)) (sx 29) ?_;refine zt rfl (xI rfl rfl rfl (zc rfl)) (sx 30) ?_;refine zt rfl (xJ rfl rfl (zc rfl)) (sx 9) ?_;refine zt rfl (xJ rfl rfl (zc rfl)) (sx 10) ?_;refine zt rfl (xJ rfl rfl (zc rfl)) (sx 11) ?_;refine yB (wt (wr (wr (yF ?_))));refine zt rfl (yS rfl rfl (zc rfl)) (sx 31) ?_;refine zt rfl (zu7 rfl rfl rfl) (sx 32) ?_;refine zt rfl (yS rfl rfl (zc rfl)) (sx 33) ?_;refine zt rfl (yS rfl rfl (zc rfl)) (sx 34) ?_;refine zt rfl (me rfl rfl rfl) (sx 35) ?_;refine zt rfl (oI rfl zt4 rfl rfl) (sx 36) ?_;refine zt rfl (yT rfl zn5 rfl rfl (zA rfl) (zc rfl)) (sx 37) ?_;refine zir rfl (wj rfl rfl rfl rfl zqh rfl vO) (sx 38) λg=>?_;replace g:=zwL g;apply R.r;refine cF a (λp a=>?_) (λp a=>?_)
  ·refine cB a (λ_=>ok6) λv1106 a=>?_;exact Z
  ·refine zO (wp rfl gg rfl (zcx zuu rfl)) ?_;refine c0 ?_;refine dk [16] [(16,[(4,.cells [.int .u64 c.2.1,zb c.2.2.1,zb c.2.2.2.1,.int .u64 c.2.2.2.2.1,za c.2.2.2.2.2.1,.map (ak h.zh+3),zb c.2.2.2.2.2.2.1]),(3,.q7 (c.1.map (zZ (λx=>zn x) (λx=>zq x))) 0)])] ?_;refine wl (tI rfl ty5 ap gg rfl) ?_;refine qG rfl rfl (wj rfl rfl rfl rfl zqh gg vO) ss ?_;refine zJ a (λw a=>wl (wp rfl gg gg (n4 w)) ?_);refine zd a (λy1109 O a=>mS O (R.r ?_));refine zd a (λv1110 q a=>ay (by rintro _ ⟨B2,T2,rfl,i⟩;exact zxH (yJ rfl i.1) (yJ rfl i.2.1) q) ?_);refine dk [16] [(16,[(4,.cells [.int .u64 c.2.1,zb c.2.2.1,zb c.2.2.2.1,.int .u64 c.2.2.2.2.1,za c.2.2.2.2.2.1,.map (ak h.zh+3),zb c.2.2.2.2.2.2.1]),(3,.q7 (c.1.map (zZ (λx=>zn x) (λx=>zq x))) 0)])] ?_;refine wl (tI rfl ty5 ap gg rfl) ?_;refine qG rfl rfl (wj rfl rfl rfl rfl zqh gg vO) ss ?_;refine zJ a (λP a=>wl (wp rfl gg gg (n4 P)) ?_);refine zd a (λy1113 E a=>mS E (R.r ?_));refine zd a (λv1114 N a=>ay (by rintro _ ⟨B2,T2,rfl,i⟩;exact zxH (yJ rfl i.1) (yJ rfl i.2.1) N) ?_);refine cF a (λy a=>?_) (λy a=>?_)
   ·exact Z
   ·refine cB a (λ_=>ok7 (yJ rfl rfl) (yJ rfl rfl)) λv1116 a=>cB a (λ_=>ok7 (yJ rfl rfl) (yJ rfl rfl)) λv1117 a=>zd a (λv1118 Q a=>cp (zxD Q) ?_);refine cB a (λ_=>ok7 (yJ rfl rfl) (yJ rfl rfl)) λv1119 a=>zd a (λv1120 T a=>cp (zuE T) ?_);refine cB a (λ_=>ok7 (yJ rfl rfl) (yJ rfl rfl)) λv1121 a=>cF a (λB a=>?_) (λB a=>?_)
    ·exact Z
    ·refine cB a (λ_=>zy6) λv1123 a=>cG a (λ_=>zy7) λv1124 a=>cG a (λ_=>ok6) λv1125 a=>?_;exact Z
end Go.Vv
