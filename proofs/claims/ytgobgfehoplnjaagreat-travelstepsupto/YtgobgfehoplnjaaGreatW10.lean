/- Each function that the law reaches computes what its reading says; printed by a program. -/
import Derived.Test.YtgobgfehoplnjaaGreatW9
set_option linter.all false
namespace Go.Vv
open Go Go.Proofs
set_option maxRecDepth 100000
set_option synthInstance.maxSize 100000
set_option synthInstance.maxHeartbeats 1000000
set_option maxHeartbeats 1000000
theorem ok3 {b0:GL} {l1:(List GI)} {res:Bool} {h:AH}  (a:xi b0 l1=some res):Sp 3 [oW b0,zK l1] h (z7 (.bool res) h):=by
 unfold xi at a;refine y8 Tryz.func3 101 ?_;refine zd a (λv1 hv1 a=>znp (α:=Unit) (β:=List (GA×GI)×Int×(List GA)×(List GA)×Int×(List GC)×(List GA)×Int×(List GA)×(List GA)×Int×(List GC)×(List GI)) (X:=Unit) (Y:=Unit) (vA:=λv1a=>.fk [.em,.em,.bool false]) (vB:=λc=>.fk [.ptr (h.zh.length+4) 0,.ptr (h.zh.length+5) 0,.bool true]) (HA:=λv1a _=>h.ext [.cells (GL.row b0)] []) (HB:=λc _=>h.ext [.cells (GL.row b0),.dead,.dead,.q7 (c.1.map (zZ (λx=>zn x) (λx=>zo x))) 0,.cells [.int .u64 c.2.1,za c.2.2.1,za c.2.2.2.1,.int .u64 c.2.2.2.2.1,zb c.2.2.2.2.2.1,.map (h.zh.length+3),za c.2.2.2.2.2.2.1],.cells [.int .u64 c.2.2.2.2.2.2.2.1,za c.2.2.2.2.2.2.2.2.1,za c.2.2.2.2.2.2.2.2.2.1,.int .u64 c.2.2.2.2.2.2.2.2.2.2.1,zb c.2.2.2.2.2.2.2.2.2.2.2.1,zK c.2.2.2.2.2.2.2.2.2.2.2.2]] []) a rfl (yb rfl rfl rfl fZ.o fT.o) ?_ (λ_=>ss) (λ_=>ss) (λv1a _ a=>?_) (λc _ a=>?_))
 ·replace a:=hv1;refine eW Tryz.func4 71 ?_;refine xU λhn554=>dm λhn555=>R.r ?_;refine cG a (λ_=>zxw) λv556 a=>cG a (λ_=>zxv) λv557 a=>cF a (λhc558 a=>?_) (λhc558 a=>?_)
  ·obtain rfl:=oi a;refine fr rfl (xZ (yA (by simp [zA,AV.low]) rfl rfl (by simp [q6.low,zA,AV.low])) ?_);exact .inl ⟨_,(),rfl,rfl,rfl⟩
  ·refine zd a (λb hv559 a=>yC (X:=Unit) (v:=.fk [.ptr (h.zh.length+4) 0,.int .i64 (0:Int)]) (H':=λ_=>h.ext [.cells (GL.row b0),.cells (GL.row b0),.dead,.q7 (b.1.map (zZ (λx=>zn x) (λx=>zo x))) 0,.cells [.int .u64 b.2.1,za b.2.2.1,za b.2.2.2.1,.int .u64 b.2.2.2.2.1,zb b.2.2.2.2.2.1,.map (h.zh.length+3),za b.2.2.2.2.2.2]] []) rfl (yb rfl rfl rfl fZ.o fT.o) ?_ ss (λ_=>?_))
   ·replace a:=hv559;refine eW Tryz.func15 15 ?_;refine cB a (λ_=>zvM) λv563 a=>tB gg a (λhc564 a=>?_) (λhc564 a=>?_)
    ·cases a
    ·apply R.r;refine cB a (λ_=>ztW) λv565 a=>zO (tg (n:=3) rfl rfl) ?_;refine zO sb ?_;obtain rfl:=oi a;refine fr rfl (xZ ((qh (by exact (.g7 (.g7 (.dead (.g7 (.g7 .nil))))))).wk) ?_);exact ⟨rfl,(),rfl⟩
   ·apply R.r;refine zO sb ?_;refine xU λhn566=>qe (h0:=wk.trans (zfw (j:=5) rfl (by exact (.eq (.eq (.eq (.eq (.eq (.cons (g6.gW _ _ _) fd.nil))))))) rfl rfl) (wk.le (by exact (.d4 (.drop (.drop (.drop (.eq (.drop (.eq (.d16 (.d4 (.d4 (.d4 (.drop (.eq (.eq (.cons (g6.of_eq rfl) (.d16 (.d4 (.d4 (.d4 (.drop fd.nil))))))))))))))))))))))) (λ(n1:Nat) (g:List (GA×GI)×(List GA)×(List GI))=>zk 0 7 (zk 10 29 (zk 42 29 [(8,.any),(41,.int .i64 (n1:Int))]))) (λg=>h.ext [.cells (GL.row b0),.cells (GL.row b0),.dead,.q7 (g.1.map (zZ (λx=>zn x) (λx=>zo x))) 0,.cells [.int .u64 b.2.1,za b.2.2.1,za b.2.2.2.1,.int .u64 b.2.2.2.2.1,zb b.2.2.2.2.2.1,.map (h.zh.length+3),za g.2.1],.cells [.int .u64 b0.num,za b0.f,za b0.g9,.int .u64 b0.time,zb b0.tree,zK g.2.2]] []) a (λn1 g hi1 a=>cL a (λi o1 hl1 hx1 a s=>?_) (λa=>?_))
    ·refine ix (zt hx1) (R.r ?_);refine xU λhn849=>dm λhn850=>R.r ?_;refine dm λhn851=>R.r ?_;refine cF a (λhc852 a=>?_) (λhc852 a=>?_)
     ·cases a;replace a:=s;apply R.r;obtain rfl:=oi a;refine fr rfl (xZ (yA (by simp [zA,AV.low]) rfl rfl (by simp [q6.low,zA,AV.low,GA.row,GI.row,zZ])) ?_);exact .inl ⟨_,(),rfl,rfl,rfl⟩
     ·refine zd a (λd W a=>yC (X:=Unit) (v:=.int .i64 d.1) (H':=λ_=>h.ext [.cells (GL.row b0),.cells (GL.row b0),.dead,.q7 (d.2.1.map (zZ (λx=>zn x) (λx=>zo x))) 0,.cells [.int .u64 b.2.1,za b.2.2.1,za b.2.2.2.1,.int .u64 b.2.2.2.2.1,zb b.2.2.2.2.2.1,.map (h.zh.length+3),za d.2.2],.cells [.int .u64 b0.num,za b0.f,za b0.g9,.int .u64 b0.time,zb b0.tree,zK g.2.2],.cells (GI.row i)] []) rfl (yb rfl rfl rfl fZ.o fT.o) ?_ ss (λ_=>?_))
      ·replace a:=W;refine eW Tryz.func16 87 ?_;refine cB a (λ_=>zpK (yQ rfl rfl) (yQ rfl rfl)) λv897 a=>cF a (λhc898 a=>?_) (λhc898 a=>?_)
       ·exact ZO
       ·refine cB a (λ_=>ztV) λv899 a=>cF a (λhc900 a=>?_) (λhc900 a=>?_)
        ·exact ZO
        ·refine cB a (λ_=>ztU (yQ rfl rfl) (yQ rfl rfl)) λv901 a=>cF a (λhc902 a=>?_) (λhc902 a=>?_)
         ·exact ZO
         ·refine cB a (λ_=>zvL (yQ rfl rfl) (yQ rfl rfl)) λv903 a=>zy rfl mF ss ?_;refine zy rfl (ve rfl gg (zc rfl)) ss ?_;refine yG (ww (wK (nw ?_)));refine zdq (λ(s2:Bool)=>zk 0 2 (zk 7 23 (zk 31 56 [(4,.any),(30,.bool s2)]))) (λs2=>h.ext [.cells (GL.row b0),.cells (GL.row b0),.dead,.q7 (g.1.map (zZ (λx=>zn x) (λx=>zo x))) 0,.cells [.int .u64 b.2.1,za b.2.2.1,za b.2.2.2.1,.int .u64 b.2.2.2.2.1,zb b.2.2.2.2.2.1,.map (h.zh.length+3),za g.2.1],.cells [.int .u64 b0.num,za b0.f,za b0.g9,.int .u64 b0.time,zb b0.tree,zK g.2.2],.cells (GI.row i),.cells [.ptr (h.zh.length+4) 0],.cells (GI.row i),.cells [.int .u8 i.z6.zi.fj,.int .u32 i.z6.zi.inc,.int .u64 (IntKind.wrap .u64 (i.z6.seq - (1:Int)))]] []) a (λ_=>UE) (λo2 a hK2=>?_) (λs2 a=>?_)
          ·apply R.r;refine cB a (λ_=>zs1 (λ_ v L M hv=>zs2 (vq (j:=4) rfl) (vq (j:=3) rfl) (vq (j:=7) rfl) hv)) λv926 a=>cF a (λV a=>?_) (λV a=>?_)
           ·refine tC ?_;exact ZL
           ·refine qc a (λv928 hv928 a=>?_);refine w8 rfl dU (λhb=>zs2 (yQ rfl rfl) (yQ rfl rfl) (yQ rfl rfl) (hv928 hb)) ss (R.r ?_);refine cF a (λT a=>?_) (λT a=>?_)
            ·refine tC ?_;exact ZL
            ·refine cB a (λ_=>zpJ) λv930 a=>tC ?_;exact ZL
          ·refine cF a (λhc931 a=>?_) (λhc931 a=>?_)
           ·exact ZO
           ·refine cB a (λ_=>zpJ) λv932 a=>cG a (λ_=>zvK (yQ rfl rfl) (yQ rfl rfl)) λv933 a=>cF a (λhc934 a=>?_) (λhc934 a=>?_)
            ·exact ZO
            ·refine zbB (m:=g.1) (j:=3) (kv:=(λx=>zn x)) (vv:=(λx=>zo x)) rfl rfl rfl rfl rfl Tryz.underlying82 gg rfl ss (R.r ?_);refine cF a (λS a=>?_) (λS a=>?_)
             ·exact ZO
             ·refine dr [7] ?_;refine zd a (λv937 U a=>yH rfl rfl (λ_=>sc rfl) (by rintro _ ⟨B2,T2,rfl,hk2⟩;exact ztT U) ss ?_);refine ur (mP Tryz.underlying82 bD) ?_;refine dr [7] ?_;refine cM a (λ_ e _=>zrA e) λv938 a=>ur fS.out ?_;exact ZO
      ·apply R.r;refine zd a (λQ hv939 a=>yC (X:=Unit) (v:=.int .i64 Q.1) (H':=λ_=>h.ext [.cells (GL.row b0),.cells (GL.row b0),.dead,.q7 (d.2.1.map (zZ (λx=>zn x) (λx=>zo x))) 0,.cells [.int .u64 b.2.1,za b.2.2.1,za b.2.2.2.1,.int .u64 b.2.2.2.2.1,zb b.2.2.2.2.2.1,.map (h.zh.length+3),za d.2.2],.cells [.int .u64 b0.num,za b0.f,za b0.g9,.int .u64 b0.time,zb b0.tree,zK Q.2],.cells (GI.row i)] []) rfl (yb rfl rfl rfl fZ.o fT.o) ?_ ss (λ_=>?_))
       ·replace a:=hv939;refine eW Tryz.func17 106 ?_;refine cB a (λ_=>zxo) λv1022 a=>cF a (λy a=>?_) (λy a=>?_)
        ·exact ZO
        ·refine cB a (λ_=>ztS (yQ rfl rfl)) λv1024 a=>cF a (λB a=>?_) (λB a=>?_)
         ·exact ZO
         ·refine cB a (λ_=>zxn (yQ rfl rfl)) λv1026 a=>cF a (λH a=>?_) (λH a=>?_)
          ·exact ZO
          ·refine cB a (λ_=>zxm (yQ rfl rfl)) λv1028 a=>cF a (λt a=>?_) (λt a=>?_)
           ·exact ZO
           ·refine xU λhn1030=>cF a (λA a=>?_) (λA a=>?_)
            ·exact ZO
            ·refine xd (λ(s2:Int)=>zk 1 2 (zk 4 2 (zk 7 99 [(6,.int .i64 s2)]))) (λs2=>h.ext [.cells (GL.row b0),.cells (GL.row b0),.dead,.q7 (d.2.1.map (zZ (λx=>zn x) (λx=>zo x))) 0,.cells [.int .u64 b.2.1,za b.2.2.1,za b.2.2.2.1,.int .u64 b.2.2.2.2.1,zb b.2.2.2.2.2.1,.map (h.zh.length+3),za d.2.2],.cells [.int .u64 b0.num,za b0.f,za b0.g9,.int .u64 b0.time,zb b0.tree,zK g.2.2],.cells (GI.row i),.cells (GI.row i),.cells [.int .u8 i.z6.zi.fj,.int .u32 i.z6.zi.inc,.int .u64 (IntKind.wrap .u64 (i.z6.seq - (1:Int)))]] []) a (λ_=>UE) (wk.le f9.o) ?_;intro n2 s2 o2 a hK2;apply R.r;refine dr [] ?_;refine qm rfl rfl (x9 rfl rfl rfl rfl zqn gg vC) ss (R.r ?_);refine zM a (λG a=>vE G (R.r ?_));refine zM a (λl a=>vE l (R.r ?_));refine zM a (λE a=>vE E (R.r ?_));refine cH a (λ_=>zoF) λv1091 a=>cF a (λC a=>?_) (λC a=>?_)
             ·exact ZL
             ·cases a;replace a:=hK2;apply R.r;refine zO (bs (([]:List GI).map GI.row)) ?_;refine zd a (λm1098 z a=>zO (qB rfl zqn gg (.inl rfl) .none (.some gg) z) ?_);refine zM a (λD a=>zO (eN D) ?_);refine zO (bs (([i]:List GI).map GI.row)) ?_;refine zM a (λp a=>zO (eT p) ?_);refine zd a (λm1101 w a=>zO (qB rfl zqn gg (.inl rfl) (.some gg) .none w) ?_);refine zM a (λP a=>zO (eT P) ?_);obtain rfl:=oi a;refine fr rfl (xZ (wk.trans (zfw (j:=5) rfl (by exact (.eq (.eq (.eq (.eq (.eq (.cons (g6.gW _ _ _) fd.nil))))))) rfl rfl) (yA (by simp [zA,AV.low]) rfl rfl (by simp [q6.low,zA,AV.low,GA.row,GI.row,zZ]))) ?_);exact ⟨rfl,(),rfl⟩
       ·apply R.r;exact ZL
    ·obtain rfl:=oi a;refine fr rfl (xZ ((qh (by exact (.g7 (.dead (.g7 (.g7 (.g7 (.g7 .nil)))))))).wk) ?_);exact .inr ⟨_,(),rfl,rfl,rfl⟩
 ·apply R.r;refine c1 ?_;refine cB a (λ_=>ok5) λv1103 a=>?_;exact Z
 ·apply R.r;refine c0 ?_;refine zO (wv rfl gg rfl (zbP zsV rfl)) ?_;refine c0 ?_;refine cB a (λ_=>ok6 (yQ rfl rfl) (yQ rfl rfl)) λv1104 a=>dr [] ?_;refine qm rfl rfl (x9 rfl rfl rfl rfl zs7 gg vC) ss (R.r ?_);refine qm rfl rfl (x9 rfl rfl rfl rfl zqn gg vC) ss (R.r ?_);refine zM a (λF a=>vE F (R.r ?_));refine cH a (λ_=>ok7) λv1108 a=>?_;refine qv rfl rfl (λhb=>x9 rfl rfl rfl rfl zqn (zN gg hb) vC) ss ?_;refine zM a (λJ a=>vE J (R.r ?_));refine qc a (λv1111 I a=>?_);refine uK rfl rfl sc (λhb=>ok8 (yQ rfl rfl) (yQ rfl rfl) (I hb)) ss ?_;refine cH a (λ_=>ok7) λv1112 a=>cF a (λu a=>?_) (λu a=>?_)
  ·exact Z
  ·refine xU λhn1114=>qe (λ(n1:Nat) (g:(List GC))=>zk 0 5 (zk 7 2 (zk 10 52 (zk 65 36 [(9,zb g),(64,.int .i64 (n1:Int))])))) (λg=>h.ext [.cells (GL.row b0),.dead,.dead,.q7 (c.1.map (zZ (λx=>zn x) (λx=>zo x))) 0,.cells [.int .u64 c.2.1,za c.2.2.1,za c.2.2.2.1,.int .u64 c.2.2.2.2.1,zb c.2.2.2.2.2.1,.map (h.zh.length+3),za c.2.2.2.2.2.2.1],.cells [.int .u64 c.2.2.2.2.2.2.2.1,za c.2.2.2.2.2.2.2.2.1,za c.2.2.2.2.2.2.2.2.2.1,.int .u64 c.2.2.2.2.2.2.2.2.2.2.1,zb c.2.2.2.2.2.2.2.2.2.2.2.1,zK c.2.2.2.2.2.2.2.2.2.2.2.2]] []) a (λn1 g hi1 a=>cL a (λi o1 hl1 hx1 a s=>?_) (λa=>?_))
   ·refine ix (zt hx1) (R.r ?_);refine cB a (λ_=>ok9 (yQ rfl rfl) (yQ rfl rfl)) λv1146 a=>cF a (λK a=>?_) (λK a=>?_)
    ·refine zd a (λy1148 k a=>ix k (R.r ?_));refine zd a (λv1149 N a=>cp (zvT N) ?_);refine cB a (λ_=>zxx) λv1150 a=>cG a (λ_=>zvS) λv1151 a=>cF a (λO a=>?_) (λO a=>?_)
     ·cases a;replace a:=s;apply R.r;exact Z
     ·exact ZL
    ·refine cG a (λ_=>zvS) λv1153 a=>cF a (λq a=>?_) (λq a=>?_)
     ·cases a;replace a:=s;apply R.r;exact Z
     ·exact ZL
   ·refine cB a (λ_=>ok5) λv1155 a=>?_;exact Z
end Go.Vv
