/- Steps that nobody needs to tell: found by instances. -/
import Derived.Test.YtgobgfehoplnjaaGreatVvMr
import Derived.Test.YtgobgfehoplnjaaGreatVvK
set_option linter.all false
namespace Go.Vv
open Go
variable {fn:Func}
class GT (x:Operand) (env:List AV) (v:outParam AV):Prop where
 out:yu env x=some v
class ST (d:Option Tmp) (env:List AV) (v:AV) (env':outParam (List AV)):Prop where
 out:tq d env v=some env'
class TY (v:AV) (v':outParam AV):Prop where
 out:tyo v=some v'
section
variable {v a0 a1 a2 a3 a4 a5 a6 a7 a8 a9 a10 a11 a12 a13 a14 a15:AV} {r r':List AV} {n:Nat}
instance {env:List AV}:ST none env v env:=⟨rfl⟩
instance:GT (.tmp 0) (a0::r) a0:=⟨rfl⟩
instance:ST (some 0) (a0::r) v (v::r):=⟨rfl⟩
instance:GT (.tmp 1) (a0::a1::r) a1:=⟨rfl⟩
instance:ST (some 1) (a0::a1::r) v (a0::v::r):=⟨rfl⟩
instance:GT (.tmp 2) (a0::a1::a2::r) a2:=⟨rfl⟩
instance:ST (some 2) (a0::a1::a2::r) v (a0::a1::v::r):=⟨rfl⟩
instance:GT (.tmp 3) (a0::a1::a2::a3::r) a3:=⟨rfl⟩
instance:ST (some 3) (a0::a1::a2::a3::r) v (a0::a1::a2::v::r):=⟨rfl⟩
instance:GT (.tmp 4) (a0::a1::a2::a3::a4::r) a4:=⟨rfl⟩
instance:ST (some 4) (a0::a1::a2::a3::a4::r) v (a0::a1::a2::a3::v::r):=⟨rfl⟩
instance:GT (.tmp 5) (a0::a1::a2::a3::a4::a5::r) a5:=⟨rfl⟩
instance:ST (some 5) (a0::a1::a2::a3::a4::a5::r) v (a0::a1::a2::a3::a4::v::r):=⟨rfl⟩
instance:GT (.tmp 6) (a0::a1::a2::a3::a4::a5::a6::r) a6:=⟨rfl⟩
instance:ST (some 6) (a0::a1::a2::a3::a4::a5::a6::r) v (a0::a1::a2::a3::a4::a5::v::r):=⟨rfl⟩
instance:GT (.tmp 7) (a0::a1::a2::a3::a4::a5::a6::a7::r) a7:=⟨rfl⟩
instance:ST (some 7) (a0::a1::a2::a3::a4::a5::a6::a7::r) v (a0::a1::a2::a3::a4::a5::a6::v::r):=⟨rfl⟩
instance:GT (.tmp 8) (a0::a1::a2::a3::a4::a5::a6::a7::a8::r) a8:=⟨rfl⟩
instance:ST (some 8) (a0::a1::a2::a3::a4::a5::a6::a7::a8::r) v (a0::a1::a2::a3::a4::a5::a6::a7::v::r):=⟨rfl⟩
instance:GT (.tmp 9) (a0::a1::a2::a3::a4::a5::a6::a7::a8::a9::r) a9:=⟨rfl⟩
instance:ST (some 9) (a0::a1::a2::a3::a4::a5::a6::a7::a8::a9::r) v (a0::a1::a2::a3::a4::a5::a6::a7::a8::v::r):=⟨rfl⟩
instance:GT (.tmp 10) (a0::a1::a2::a3::a4::a5::a6::a7::a8::a9::a10::r) a10:=⟨rfl⟩
instance:ST (some 10) (a0::a1::a2::a3::a4::a5::a6::a7::a8::a9::a10::r) v (a0::a1::a2::a3::a4::a5::a6::a7::a8::a9::v::r):=⟨rfl⟩
instance:GT (.tmp 11) (a0::a1::a2::a3::a4::a5::a6::a7::a8::a9::a10::a11::r) a11:=⟨rfl⟩
instance:ST (some 11) (a0::a1::a2::a3::a4::a5::a6::a7::a8::a9::a10::a11::r) v (a0::a1::a2::a3::a4::a5::a6::a7::a8::a9::a10::v::r):=⟨rfl⟩
instance:GT (.tmp 12) (a0::a1::a2::a3::a4::a5::a6::a7::a8::a9::a10::a11::a12::r) a12:=⟨rfl⟩
instance:ST (some 12) (a0::a1::a2::a3::a4::a5::a6::a7::a8::a9::a10::a11::a12::r) v (a0::a1::a2::a3::a4::a5::a6::a7::a8::a9::a10::a11::v::r):=⟨rfl⟩
instance:GT (.tmp 13) (a0::a1::a2::a3::a4::a5::a6::a7::a8::a9::a10::a11::a12::a13::r) a13:=⟨rfl⟩
instance:ST (some 13) (a0::a1::a2::a3::a4::a5::a6::a7::a8::a9::a10::a11::a12::a13::r) v (a0::a1::a2::a3::a4::a5::a6::a7::a8::a9::a10::a11::a12::v::r):=⟨rfl⟩
instance:GT (.tmp 14) (a0::a1::a2::a3::a4::a5::a6::a7::a8::a9::a10::a11::a12::a13::a14::r) a14:=⟨rfl⟩
instance:ST (some 14) (a0::a1::a2::a3::a4::a5::a6::a7::a8::a9::a10::a11::a12::a13::a14::r) v (a0::a1::a2::a3::a4::a5::a6::a7::a8::a9::a10::a11::a12::a13::v::r):=⟨rfl⟩
instance:GT (.tmp 15) (a0::a1::a2::a3::a4::a5::a6::a7::a8::a9::a10::a11::a12::a13::a14::a15::r) a15:=⟨rfl⟩
instance:ST (some 15) (a0::a1::a2::a3::a4::a5::a6::a7::a8::a9::a10::a11::a12::a13::a14::a15::r) v (a0::a1::a2::a3::a4::a5::a6::a7::a8::a9::a10::a11::a12::a13::a14::v::r):=⟨rfl⟩
instance [g:GT (.tmp n) r v]:GT (.tmp (n+16)) (a0::a1::a2::a3::a4::a5::a6::a7::a8::a9::a10::a11::a12::a13::a14::a15::r) v:=⟨by have:=g.out;simpa [yu] using this⟩
instance [g:ST (some n) r v r']:ST (some (n+16)) (a0::a1::a2::a3::a4::a5::a6::a7::a8::a9::a10::a11::a12::a13::a14::a15::r) v (a0::a1::a2::a3::a4::a5::a6::a7::a8::a9::a10::a11::a12::a13::a14::a15::r'):=⟨by have:=g.out;simpa [tq] using this⟩
instance {env:List AV} {k:IntKind} {n:Int}:GT (.const (.int k n)) env (.int k n):=⟨rfl⟩
instance {env:List AV} {b:Bool}:GT (.const (.bool b)) env (.bool b):=⟨rfl⟩
class aX (l:List UInt8) (k:Nat):Prop where
 out:l.length<=k
instance {k:Nat}:aX [] k:=⟨lX _⟩
instance {a:UInt8} {l:List UInt8} {k:Nat} [i:aX l k]:aX (a::l) (k+1):=⟨gC i.out⟩
instance {env:List AV} {l:List UInt8} [i:aX l 64]:GT (.const (.string ⟨List.toArray l⟩)) env (.str l):=⟨by
 have h:(ByteArray.mk (List.toArray l)).size<=maxLen:=lu (by simpa [ByteArray.size] using i.out) (by decide);simp [yu,aS,h]⟩
instance {env:List AV}:GT (.const (.pointer none)) env .em:=⟨rfl⟩
instance {env:List AV}:GT (.const (.map none)) env .ea:=⟨rfl⟩
instance {env:List AV}:GT (.const .nilFunc) env .fy:=⟨rfl⟩
instance {env:List AV}:GT (.const .nilIface) env .eP:=⟨rfl⟩
instance {env:List AV}:GT (.const (.slice none 0 0)) env .fP:=⟨rfl⟩
instance {env:List AV} {g:Nat}:GT (.global g) env (.e7 g):=⟨rfl⟩
instance {env:List AV} {f:FuncId}:GT (.func f) env (.fn (.func f) [] []):=⟨rfl⟩
end
instance {b}:TY (.bool b) (.bool b):=⟨rfl⟩
instance {k n}:TY (.int k n) (.int k n):=⟨rfl⟩
instance {s}:TY (.str s) (.str s):=⟨rfl⟩
instance {i o}:TY (.ptr i o) (.ptr i o):=⟨rfl⟩
instance {c}:TY (.fI c) (.fI c):=⟨rfl⟩
instance {k e}:TY (.sl k e) (.sl k e):=⟨rfl⟩
instance {q k e}:TY (.gW q k e) (.gW q k e):=⟨rfl⟩
instance {a b c d}:TY (.d8 a b c d) (.d8 a b c d):=⟨rfl⟩
instance {a b c d}:TY (.fm a b c d) (.fm a b c d):=⟨rfl⟩
instance {a b c d e}:TY (.fU a b c d e) (.fU a b c d e):=⟨rfl⟩
instance {a b c d e}:TY (.el a b c d e) (.el a b c d e):=⟨rfl⟩
instance {i}:TY (.map i) (.map i):=⟨rfl⟩
instance {f x y}:TY (.fn f x y) (.fn f x y):=⟨rfl⟩
instance {t v}:TY (.iface t v) (.iface t v):=⟨rfl⟩
instance {c}:TY (.agg c) (.agg c):=⟨rfl⟩
instance {c}:TY (.fk c) (.fk c):=⟨rfl⟩
instance {g}:TY (.e7 g) (.e7 g):=⟨rfl⟩
instance {i}:TY (.dG i) (.dG i):=⟨rfl⟩
instance:TY .em .em:=⟨rfl⟩
instance:TY .ea .ea:=⟨rfl⟩
instance:TY .fy .fy:=⟨rfl⟩
instance:TY .eP .eP:=⟨rfl⟩
instance {f x y}:TY (AV.cy (.fn f x y)) (.fn f x y):=⟨rfl⟩
instance {v:AV} {b:Bool}:TY (tu true v b) (.fk [v,.bool b]):=⟨by rfl⟩
section
variable {α:Type}
class cx (n:Nat) (l:List α) (v:outParam α):Prop where
 out:l[n]?=some v
instance {a:α} {l:List α}:cx 0 (a::l) a:=⟨rfl⟩
instance {n:Nat} {a v:α} {l:List α} [i:cx n l v]:cx (n+1) (a::l) v:=⟨by simpa using i.out⟩
class b7 (n:Nat) (l:List α) (r:outParam (List α)):Prop where
 out:l.drop n=r
 le:n<=l.length
instance {l:List α}:b7 0 l l:=⟨rfl,lX _⟩
instance {n:Nat} {a:α} {l r:List α} [i:b7 n l r]:b7 (n+1) (a::l) r:=⟨by simpa using i.out,gC i.le⟩
class bZ (n:Nat) (l:List α) (r:outParam (List α)):Prop where
 out:l.take n=r/\n<=l.length
instance {l:List α}:bZ 0 l []:=⟨by simp⟩
instance {n:Nat} {a:α} {l r:List α} [i:bZ n l r]:bZ (n+1) (a::l) (a::r):=⟨by have:=i.out;simp [this.1,this.2]⟩
end
class aT (n:Nat) (vs l:List AV) (r:outParam (List AV)):Prop where
 out:yI l n vs=r/\n+vs.length<=l.length
class APP (l r:List q6) (s:outParam (List q6)):Prop where
 out:l++r=s
instance {r:List q6}:APP [] r r:=⟨rfl⟩
instance {a:q6} {l r s:List q6} [i:APP l r s]:APP (a::l) r (a::s):=⟨by rw [<- i.out];rfl⟩
class cq (l:List q6) (n:Nat) (b:q6) (s:outParam (List q6)):Prop where
 out:l.set n b=s
instance {a b:q6} {l:List q6}:cq (a::l) 0 b (b::l):=⟨rfl⟩
instance {a b:q6} {l s:List q6} {n:Nat} [i:cq l n b s]:cq (a::l) (n+1) b (a::s):=⟨by rw [<- i.out];rfl⟩
class dY (l:List q6) (s:outParam (List q6)):Prop where
 out:l=s
instance:dY [] []:=⟨rfl⟩
instance {a:q6} {l:List q6}:dY (a::l) (a::l):=⟨rfl⟩
instance {l r o s:List q6} [i:dY l o] [j:APP o r s]:dY (l++r) s:=⟨by rw [i.out,j.out]⟩
instance {l o s:List q6} {n:Nat} {b:q6} [i:dY l o] [j:cq o n b s]:dY (l.set n b) s:=⟨by rw [i.out,j.out]⟩
class FA (off:Nat) (a:AV) (v:outParam AV):Prop where
 out:uM off a=some v
instance {off i:Nat}:FA off (.ptr i 0) (.ptr i off):=⟨by simp [uM]⟩
instance (priority:=low) {off i o:Nat}:FA off (.ptr i o) (.ptr i (o+off)):=⟨rfl⟩
instance {off:Nat} {cs r:List AV} [i:b7 off cs r]:FA off (.fI cs) (.fI r):=⟨by simp [uM,i.out]⟩
class BI (op:BinOp) (t:TypeId) (x y:AV) (v:outParam AV):Prop where
 out:∀P,yF P op t x y=some v
section
variable {t:TypeId} {k:IntKind} {a b:Int} {x y:List UInt8}
instance:BI .add t (.int k a) (.int k b) (.int k (k.wrap (a+b))):=⟨λP=>by simp [yF,xy]⟩
instance:BI .sub t (.int k a) (.int k b) (.int k (k.wrap (a - b))):=⟨λP=>by simp [yF,xy]⟩
instance:BI .mul t (.int k a) (.int k b) (.int k (k.wrap (a * b))):=⟨λP=>by simp [yF,xy]⟩
instance:BI .and t (.int k a) (.int k b) (.int k (k.wrap ((BitVec.ofInt k.bits a &&& BitVec.ofInt k.bits b).toNat))):=⟨λP=>by simp [yF,xy]⟩
instance:BI .or t (.int k a) (.int k b) (.int k (k.wrap ((BitVec.ofInt k.bits a ||| BitVec.ofInt k.bits b).toNat))):=⟨λP=>by simp [yF,xy]⟩
instance:BI .andNot t (.int k a) (.int k b) (.int k (k.wrap ((BitVec.ofInt k.bits a &&& ~~~(BitVec.ofInt k.bits b)).toNat))):=⟨λP=>by simp [yF,xy]⟩
instance:BI .xor t (.int k a) (.int k b) (.int k (k.wrap ((BitVec.ofInt k.bits a ^^^ BitVec.ofInt k.bits b).toNat))):=⟨λP=>by simp [yF,xy]⟩
instance:BI .eql t (.int k a) (.int k b) (.bool (a==b)):=⟨λP=>by simp [yF,xy]⟩
instance:BI .neq t (.int k a) (.int k b) (.bool (a != b)):=⟨λP=>by simp [yF,xy]⟩
instance:BI .lss t (.int k a) (.int k b) (.bool (decide (a < b))):=⟨λP=>by simp [yF,xy]⟩
instance:BI .leq t (.int k a) (.int k b) (.bool (decide (a<=b))):=⟨λP=>by simp [yF,xy]⟩
instance:BI .gtr t (.int k a) (.int k b) (.bool (decide (a > b))):=⟨λP=>by simp [yF,xy]⟩
instance:BI .geq t (.int k a) (.int k b) (.bool (decide (a >= b))):=⟨λP=>by simp [yF,xy]⟩
instance:BI .eql t (.str x) (.str y) (.bool (x==y)):=⟨λP=>by rfl⟩
instance:BI .neq t (.str x) (.str y) (.bool !(x==y)):=⟨λP=>by rfl⟩
instance:BI .lss t (.str x) (.str y) (.bool (Op.bytesLess x y)):=⟨λP=>by rfl⟩
instance:BI .leq t (.str x) (.str y) (.bool (Op.bytesLess x y || x==y)):=⟨λP=>by rfl⟩
instance:BI .gtr t (.str x) (.str y) (.bool !(Op.bytesLess x y || x==y)):=⟨λP=>by rfl⟩
instance:BI .geq t (.str x) (.str y) (.bool !(Op.bytesLess x y)):=⟨λP=>by rfl⟩
instance {k2:IntKind}:BI .shr t (.int k a) (.int k2 1) (.int k (a.fdiv (2 ^ min (1:Int).toNat k.bits))):=⟨λP=>by simp [yF,xy]⟩
instance {k2:IntKind}:BI .shr t (.int k a) (.int k2 2) (.int k (a.fdiv (2 ^ min (2:Int).toNat k.bits))):=⟨λP=>by simp [yF,xy]⟩
instance {k2:IntKind}:BI .shr t (.int k a) (.int k2 3) (.int k (a.fdiv (2 ^ min (3:Int).toNat k.bits))):=⟨λP=>by simp [yF,xy]⟩
instance {k2:IntKind}:BI .shr t (.int k a) (.int k2 4) (.int k (a.fdiv (2 ^ min (4:Int).toNat k.bits))):=⟨λP=>by simp [yF,xy]⟩
instance {k2:IntKind}:BI .shr t (.int k a) (.int k2 5) (.int k (a.fdiv (2 ^ min (5:Int).toNat k.bits))):=⟨λP=>by simp [yF,xy]⟩
instance {k2:IntKind}:BI .shr t (.int k a) (.int k2 6) (.int k (a.fdiv (2 ^ min (6:Int).toNat k.bits))):=⟨λP=>by simp [yF,xy]⟩
instance {k2:IntKind}:BI .shr t (.int k a) (.int k2 7) (.int k (a.fdiv (2 ^ min (7:Int).toNat k.bits))):=⟨λP=>by simp [yF,xy]⟩
instance {k2:IntKind}:BI .shr t (.int k a) (.int k2 8) (.int k (a.fdiv (2 ^ min (8:Int).toNat k.bits))):=⟨λP=>by simp [yF,xy]⟩
instance {k2:IntKind}:BI .shr t (.int k a) (.int k2 16) (.int k (a.fdiv (2 ^ min (16:Int).toNat k.bits))):=⟨λP=>by simp [yF,xy]⟩
instance {k2:IntKind}:BI .shr t (.int k a) (.int k2 24) (.int k (a.fdiv (2 ^ min (24:Int).toNat k.bits))):=⟨λP=>by simp [yF,xy]⟩
instance {k2:IntKind}:BI .shr t (.int k a) (.int k2 32) (.int k (a.fdiv (2 ^ min (32:Int).toNat k.bits))):=⟨λP=>by simp [yF,xy]⟩
instance {k2:IntKind}:BI .shr t (.int k a) (.int k2 40) (.int k (a.fdiv (2 ^ min (40:Int).toNat k.bits))):=⟨λP=>by simp [yF,xy]⟩
instance {k2:IntKind}:BI .shr t (.int k a) (.int k2 48) (.int k (a.fdiv (2 ^ min (48:Int).toNat k.bits))):=⟨λP=>by simp [yF,xy]⟩
instance {k2:IntKind}:BI .shr t (.int k a) (.int k2 56) (.int k (a.fdiv (2 ^ min (56:Int).toNat k.bits))):=⟨λP=>by simp [yF,xy]⟩
instance {k2:IntKind}:BI .shr t (.int k a) (.int k2 63) (.int k (a.fdiv (2 ^ min (63:Int).toNat k.bits))):=⟨λP=>by simp [yF,xy]⟩
instance {k2:IntKind}:BI .shl t (.int k a) (.int k2 1) (.int k (k.wrap (a * 2 ^ min (1:Int).toNat k.bits))):=⟨λP=>by simp [yF,xy]⟩
instance {k2:IntKind}:BI .shl t (.int k a) (.int k2 2) (.int k (k.wrap (a * 2 ^ min (2:Int).toNat k.bits))):=⟨λP=>by simp [yF,xy]⟩
instance {k2:IntKind}:BI .shl t (.int k a) (.int k2 3) (.int k (k.wrap (a * 2 ^ min (3:Int).toNat k.bits))):=⟨λP=>by simp [yF,xy]⟩
instance {k2:IntKind}:BI .shl t (.int k a) (.int k2 4) (.int k (k.wrap (a * 2 ^ min (4:Int).toNat k.bits))):=⟨λP=>by simp [yF,xy]⟩
instance {k2:IntKind}:BI .shl t (.int k a) (.int k2 7) (.int k (k.wrap (a * 2 ^ min (7:Int).toNat k.bits))):=⟨λP=>by simp [yF,xy]⟩
instance {k2:IntKind}:BI .shl t (.int k a) (.int k2 8) (.int k (k.wrap (a * 2 ^ min (8:Int).toNat k.bits))):=⟨λP=>by simp [yF,xy]⟩
instance {k2:IntKind}:BI .shl t (.int k a) (.int k2 16) (.int k (k.wrap (a * 2 ^ min (16:Int).toNat k.bits))):=⟨λP=>by simp [yF,xy]⟩
instance {k2:IntKind}:BI .shl t (.int k a) (.int k2 32) (.int k (k.wrap (a * 2 ^ min (32:Int).toNat k.bits))):=⟨λP=>by simp [yF,xy]⟩
instance:BI .quo t (.int k a) (.int k 2) (.int k (k.wrap (a.tdiv 2))):=⟨λP=>by simp [yF,xy]⟩
instance:BI .rem t (.int k a) (.int k 2) (.int k (a.tmod 2)):=⟨λP=>by simp [yF,xy]⟩
instance:BI .quo t (.int k a) (.int k 3) (.int k (k.wrap (a.tdiv 3))):=⟨λP=>by simp [yF,xy]⟩
instance:BI .rem t (.int k a) (.int k 3) (.int k (a.tmod 3)):=⟨λP=>by simp [yF,xy]⟩
instance:BI .quo t (.int k a) (.int k 4) (.int k (k.wrap (a.tdiv 4))):=⟨λP=>by simp [yF,xy]⟩
instance:BI .rem t (.int k a) (.int k 4) (.int k (a.tmod 4)):=⟨λP=>by simp [yF,xy]⟩
instance:BI .quo t (.int k a) (.int k 7) (.int k (k.wrap (a.tdiv 7))):=⟨λP=>by simp [yF,xy]⟩
instance:BI .rem t (.int k a) (.int k 7) (.int k (a.tmod 7)):=⟨λP=>by simp [yF,xy]⟩
instance:BI .quo t (.int k a) (.int k 8) (.int k (k.wrap (a.tdiv 8))):=⟨λP=>by simp [yF,xy]⟩
instance:BI .rem t (.int k a) (.int k 8) (.int k (a.tmod 8)):=⟨λP=>by simp [yF,xy]⟩
instance:BI .quo t (.int k a) (.int k 10) (.int k (k.wrap (a.tdiv 10))):=⟨λP=>by simp [yF,xy]⟩
instance:BI .rem t (.int k a) (.int k 10) (.int k (a.tmod 10)):=⟨λP=>by simp [yF,xy]⟩
instance:BI .quo t (.int k a) (.int k 16) (.int k (k.wrap (a.tdiv 16))):=⟨λP=>by simp [yF,xy]⟩
instance:BI .rem t (.int k a) (.int k 16) (.int k (a.tmod 16)):=⟨λP=>by simp [yF,xy]⟩
instance:BI .quo t (.int k a) (.int k 32) (.int k (k.wrap (a.tdiv 32))):=⟨λP=>by simp [yF,xy]⟩
instance:BI .rem t (.int k a) (.int k 32) (.int k (a.tmod 32)):=⟨λP=>by simp [yF,xy]⟩
instance:BI .quo t (.int k a) (.int k 64) (.int k (k.wrap (a.tdiv 64))):=⟨λP=>by simp [yF,xy]⟩
instance:BI .rem t (.int k a) (.int k 64) (.int k (a.tmod 64)):=⟨λP=>by simp [yF,xy]⟩
instance:BI .quo t (.int k a) (.int k 100) (.int k (k.wrap (a.tdiv 100))):=⟨λP=>by simp [yF,xy]⟩
instance:BI .rem t (.int k a) (.int k 100) (.int k (a.tmod 100)):=⟨λP=>by simp [yF,xy]⟩
instance:BI .quo t (.int k a) (.int k 128) (.int k (k.wrap (a.tdiv 128))):=⟨λP=>by simp [yF,xy]⟩
instance:BI .rem t (.int k a) (.int k 128) (.int k (a.tmod 128)):=⟨λP=>by simp [yF,xy]⟩
instance:BI .quo t (.int k a) (.int k 256) (.int k (k.wrap (a.tdiv 256))):=⟨λP=>by simp [yF,xy]⟩
instance:BI .rem t (.int k a) (.int k 256) (.int k (a.tmod 256)):=⟨λP=>by simp [yF,xy]⟩
end
class UN (op:UnOp) (x:AV) (v:outParam AV):Prop where
 out:aUn op x=some v
instance {b:Bool}:UN .not (.bool b) (.bool !b):=⟨rfl⟩
instance {k:IntKind} {n:Int}:UN .neg (.int k n) (.int k (k.wrap (0 - n))):=⟨rfl⟩
class NA (d:TypeDesc):Prop where
 out:ye d=false
instance {k:IntKind}:NA (.int k):=⟨rfl⟩
instance:NA .string:=⟨rfl⟩
instance:NA .bool:=⟨rfl⟩
instance {e:TypeId}:NA (.slice e):=⟨rfl⟩
instance {e:TypeId}:NA (.pointer e):=⟨rfl⟩
instance {a b:TypeId}:NA (.map a b):=⟨rfl⟩
class TA (P:Program) (t:TypeId) (k:outParam Nat):Prop where
 out:∃d,Ty P t d k/\ye d=true
class SUC (k:Nat):Prop where
 out:∃j,k=j+1
instance {n:Nat}:SUC (n+1):=⟨⟨n,rfl⟩⟩
class IMP (b b':Bool):Prop where
 out:b=true->b'=true
instance {b:Bool}:IMP b b:=⟨id⟩
instance {a b c:Bool} [i:IMP a b]:IMP (a&&c) b:=⟨λh=>i.out (zvr h)⟩
class GGX (b:Bool) (w:AV) (v:outParam AV):Prop where
 out:b=true->w=v
instance {b o:Bool} {v:AV} [i:IMP b o]:GGX b (gv o v) v:=⟨λs=>by rw [i.out s,rE]⟩
instance (priority:=low) {b:Bool} {w:AV}:GGX b w w:=⟨λ_=>rfl⟩
class GG (x:Operand) (env:List AV) (b:Bool) (v:outParam AV):Prop where
 out:b=true->yu env x=some v
instance {x:Operand} {env:List AV} {b:Bool} {w v:AV} [i:GT x env w] [j:GGX b w v]:GG x env b v:=⟨λo=>by rw [<- j.out o];exact i.out⟩
class co (P:Program) (t:TypeId) (v:AV) (v':outParam AV):Prop where
 out:w6 P t v=v'
instance {P:Program} {t:TypeId} {v v':AV} [i:TY v v']:co P t v v':=⟨zc i.out⟩
instance {P:Program} {t e:TypeId} {k:Nat} [i:El P t e k]:co P t .fP (.gW none k []):=⟨zkE i⟩
class aw (b t w b':Bool):Prop where
 out:b=true->t=w->b'=true
instance {b t w:Bool}:aw b t w (t==w):=⟨λ_ h=>by simp_all⟩
instance {b o t w:Bool} [i:IMP b o]:aw b t w (o&&(t==w)):=⟨λh e=>by rw [i.out h,e];cases w <;> rfl⟩
class aq (b t:Bool) (x y:AV) (v:outParam AV):Prop where
 out:b=true->(if t then x else y)=v
section
variable {b t q r c c':Bool} {k:IntKind} {m n:Int}
instance:aq b t (.bool q) (.bool r) (.bool (if t then q else r)):=⟨λ_=>zpA⟩
instance [i:aw b t true c]:aq b t (gv c (.bool q)) (.bool r) (.bool (if t then q else r)):=⟨λh=>zpz (i.out h)⟩
instance [i:aw b t false c]:aq b t (.bool r) (gv c (.bool q)) (.bool (if t then r else q)):=⟨λh=>zpy (i.out h)⟩
instance [i:aw b t true c] [j:aw b t false c']:aq b t (gv c (.bool q)) (gv c' (.bool r)) (.bool (if t then q else r)):=⟨λh=>zpx (i.out h) (j.out h)⟩
instance (priority:=high) [i:aw b t true c]:aq b t (gv c (.bool q)) (.bool false) (.bool (t&&q)):=⟨λh=>znj (i.out h)⟩
instance (priority:=high) [i:aw b t false c]:aq b t (.bool true) (gv c (.bool q)) (.bool (t || q)):=⟨λh=>zpv (i.out h)⟩
instance:aq b t (.int k m) (.int k n) (.int k (if t then m else n)):=⟨λ_=>zpw⟩
instance [i:aw b t true c]:aq b t (gv c (.int k m)) (.int k n) (.int k (if t then m else n)):=⟨λh=>zni (i.out h)⟩
instance [i:aw b t false c]:aq b t (.int k n) (gv c (.int k m)) (.int k (if t then n else m)):=⟨λh=>znh (i.out h)⟩
end
class cr (P:Program) (o:Oper) (env:List AV) (h:AH) (q:Bool) (v:outParam AV):Prop where
 out:q=true->zj P o env h=.ok v h
section
variable {P:Program} {env:List AV} {h h0:AH} {r':List q6} {d:Option Tmp} {t t' u:TypeId} {p:String} {a:Array Edge} {x y z:Operand} {v v' w w' b:AV} {id i j n k k' off f:Nat} {cs cs' r:List AV} {L L':List q6} {M:List Nat} {td:TypeDesc} {gd:Option (Nat×Bool)} {q tt:Bool}
instance [o:GG x env q v] [s:co P t v v']:cr P ⟨d,.move x,t,p,a,gd⟩ env h q v':=⟨λC=>xI rfl (o.out C) s.out⟩
instance [o:GG x env q v] [s:co P t v v']:cr P ⟨d,.assign x,t,p,a,gd⟩ env h q v':=⟨λC=>ve rfl (o.out C) s.out⟩
instance [s:GG x env q (.bool tt)] [E:GT y env v] [C:GT z env w] [D:aq q tt v w b]:cr P ⟨d,.pick x y z,t,p,a,gd⟩ env h q b:=⟨λo=>zow rfl (s.out o) E.out C.out (D.out o)⟩
instance [o:Fo P t f off u k] [s:SUC k] [C:GG x env q v] [D:FA off v v']:cr P ⟨d,.fieldAddr t x f,t',p,a,gd⟩ env h q v':=⟨λE=>by
 obtain ⟨j,rfl⟩:=s.out;exact ms rfl o (C.out E) D.out⟩
instance {op:BinOp} [s:GG x env q v] [D:GG y env q v'] [C:BI op t v v' w]:cr P ⟨d,.binOp op t x y u,t',p,a,gd⟩ env h q w:=⟨λo=>wv rfl (s.out o) (D.out o) (C.out P)⟩
instance {op:UnOp} [o:GG x env q v] [s:UN op v w]:cr P ⟨d,.unOp op t x,t',p,a,gd⟩ env h q w:=⟨λC=>zw1 rfl (o.out C) s.out⟩
instance [o:GG x env q (.fk cs)] [s:cx n cs v] [C:co P t v v']:cr P ⟨d,.extract x n,t,p,a,gd⟩ env h q v':=⟨λD=>vL rfl (o.out D) s.out C.out⟩
instance [o:GG x env q (.fI cs)]:cr P ⟨d,.nilCheck x,t,p,a,gd⟩ env h q (.fI cs):=⟨λs=>zaD rfl (o.out s) rfl⟩
instance [o:GG x env q (.ptr i j)]:cr P ⟨d,.nilCheck x,t,p,a,gd⟩ env h q (.ptr i j):=⟨λs=>zaD rfl (o.out s) rfl⟩
instance [o:Ty P t td k] [E:NA td] [s:GG x env q (.ptr (h0.zh.length+j) off)] [J:dY L L'] [H:cx j L' (.cells cs)] [C:cx off cs v] [D:co P t v v']:cr P ⟨d,.load t x,t',p,a,gd⟩ env (h0.ext L M) q v':=⟨λI=>xM rfl o (s.out I) (by rw [J.out];exact H.out) (by rw [E.out];exact zB C.out) D.out⟩
instance [o:Ty P t td k] [E:NA td] [s:GG x env q (.fI cs)] [D:cx 0 cs v] [C:co P t v v']:cr P ⟨d,.load t x,t',p,a,gd⟩ env h q v':=⟨λH=>zi7 rfl o (s.out H) (by rw [E.out];exact zB D.out) C.out⟩
instance [D:TA P t k] [E:GG x env q (.ptr (h0.zh.length+j) off)] [R:dY L L'] [J:cx j L' (.cells cs)] [o:b7 off cs cs'] [H:bZ k cs' r]:cr P ⟨d,.load t x,t',p,a,gd⟩ env (h0.ext L M) q (.agg r):=⟨λK=>by
 obtain ⟨td,I,O⟩:=D.out;have C:=o.out;have s:=H.out;refine xM rfl I (E.out K) (by rw [R.out];exact J.out) ?_ (zc (v:=.agg r) rfl);rw [O];refine ziQ (jI ?_) (by rw [C,s.1]);have:=s.2;rw [<- C,jC] at this;have:=o.le;omega⟩
instance [o:TA P t k] [s:GG x env q (.fI cs)] [C:bZ k cs r]:cr P ⟨d,.load t x,t',p,a,gd⟩ env h q (.agg r):=⟨λE=>by
 obtain ⟨td,D,H⟩:=o.out;have I:=C.out;refine zi7 rfl D (s.out E) ?_ (zc (v:=.agg r) rfl);rw [H];exact ziQ (jI (by omega)) (by simp_all)⟩
class cd (v:AV) (cs:outParam (List AV)):Prop where
 out:v.cells?=some cs
instance:cd (.agg cs) cs:=⟨rfl⟩
class ed (L:List q6) (n:outParam Nat):Prop where
 out:L.length=n
instance:ed [] 0:=⟨rfl⟩
instance {b0:q6}:ed [b0] 1:=⟨rfl⟩
instance {b0 o:q6}:ed [b0,o] 2:=⟨rfl⟩
instance {b0 s o:q6}:ed [b0,s,o] 3:=⟨rfl⟩
instance {b0 C s o:q6}:ed [b0,C,s,o] 4:=⟨rfl⟩
instance {b0 o C D s:q6}:ed [b0,o,C,D,s] 5:=⟨rfl⟩
instance {b0 o D E C s:q6}:ed [b0,o,D,E,C,s] 6:=⟨rfl⟩
instance {b0 o E H D s C:q6}:ed [b0,o,E,H,D,s,C] 7:=⟨rfl⟩
instance {b0 s H I E C D o:q6}:ed [b0,s,H,I,E,C,D,o] 8:=⟨rfl⟩
instance {b0 s I J H C E o D:q6}:ed [b0,s,I,J,H,C,E,o,D] 9:=⟨rfl⟩
instance {b0 s I J H C E o D K:q6}:ed [b0,s,I,J,H,C,E,o,D,K] 10:=⟨rfl⟩
instance {b0 C J K I D H s E O o:q6}:ed [b0,C,J,K,I,D,H,s,E,O,o] 11:=⟨rfl⟩
instance {b0 D K O J E I C H R s o:q6}:ed [b0,D,K,O,J,E,I,C,H,R,s,o] 12:=⟨rfl⟩
instance {b0 E O R K H J D I S C s o:q6}:ed [b0,E,O,R,K,H,J,D,I,S,C,s,o] 13:=⟨rfl⟩
instance {b0 H R S O I K E J T C s o D:q6}:ed [b0,H,R,S,O,I,K,E,J,T,C,s,o,D] 14:=⟨rfl⟩
instance {b0 I S T R J O H K U D C s E o:q6}:ed [b0,I,S,T,R,J,O,H,K,U,D,C,s,E,o] 15:=⟨rfl⟩
instance {b0 J T U S K R I O V E D C H o s:q6}:ed [b0,J,T,U,S,K,R,I,O,V,E,D,C,H,o,s] 16:=⟨rfl⟩
instance {b0 K U V T O S J R W H E D I s C o:q6}:ed [b0,K,U,V,T,O,S,J,R,W,H,E,D,I,s,C,o] 17:=⟨rfl⟩
instance {b0 O V W U R T K S X I H E J s D o C:q6}:ed [b0,O,V,W,U,R,T,K,S,X,I,H,E,J,s,D,o,C] 18:=⟨rfl⟩
instance {b0 O X T W R S V Y U E D K H s J o I C:q6}:ed [b0,O,X,T,W,R,S,V,Y,U,E,D,K,H,s,J,o,I,C] 19:=⟨rfl⟩
instance {b}:cd (.bool b) [.bool b]:=⟨rfl⟩
instance {k n}:cd (.int k n) [.int k n]:=⟨rfl⟩
instance {s}:cd (.str s) [.str s]:=⟨rfl⟩
instance {i o}:cd (.ptr i o) [.ptr i o]:=⟨rfl⟩
instance {c}:cd (.fI c) [.fI c]:=⟨rfl⟩
instance {k e}:cd (.sl k e) [.sl k e]:=⟨rfl⟩
instance {q k e}:cd (.gW q k e) [.gW q k e]:=⟨rfl⟩
instance {a b c d}:cd (.d8 a b c d) [.d8 a b c d]:=⟨rfl⟩
instance {a b c d}:cd (.fm a b c d) [.fm a b c d]:=⟨rfl⟩
instance {a b c d e}:cd (.fU a b c d e) [.fU a b c d e]:=⟨rfl⟩
instance {a b c d e}:cd (.el a b c d e) [.el a b c d e]:=⟨rfl⟩
instance {i}:cd (.map i) [.map i]:=⟨rfl⟩
instance {f x y}:cd (.fn f x y) [.fn f x y]:=⟨rfl⟩
instance {t v}:cd (.iface t v) [.iface t v]:=⟨rfl⟩
instance {g}:cd (.e7 g) [.e7 g]:=⟨rfl⟩
instance {i}:cd (.dG i) [.dG i]:=⟨rfl⟩
class c9 (cs:List AV) (n:Nat):Prop where
 out:cs.length=n
instance:c9 [] 0:=⟨rfl⟩
instance [i:c9 cs n]:c9 (v::cs) (n+1):=⟨by simp [i.out]⟩
class aU (cs r:List AV):Prop where
 out:cs.length=r.length
instance:aU [] []:=⟨rfl⟩
instance [i:aU cs r]:aU (v::cs) (w::r):=⟨by simp [i.out]⟩
instance (priority:=high) [i:aU cs r]:aT 0 cs r cs:=⟨by simp [yI,i.out]⟩
instance:aT 0 [] r r:=⟨by simp [yI]⟩
instance [i:aT 0 cs r cs']:aT 0 (v::cs) (w::r) (v::cs'):=⟨by have:=i.out;simp only [yI,gj,lC,l6] at this ⊢;simp only [m3,hL,kg,this.1,gD];omega⟩
instance [i:aT n cs r cs']:aT (n+1) cs (w::r) (w::cs'):=⟨by have:=i.out;simp only [yI] at this ⊢;rw [show n+1+cs.length=n+cs.length+1 by omega];simp only [jP,hL,kg,this.1,m3,gD];omega⟩
class ZE (P:Program) (t:TypeId) (cs:outParam (List AV)):Prop where
 out:yX P t=some cs
class fS (P:Program) (o:Oper) (env:List AV) (h:AH) (v:outParam AV) (h':outParam AH):Prop where
 out:zj P o env h=.ok v h'
instance [o:ZE P t cs] [C:dY L L'] [D:ed L' n] [s:APP L' [.cells cs] r']:fS P ⟨d,.alloc t,t',p,a,gd⟩ env (h0.ext L M) (.ptr (h0.zh.length+n) 0) (h0.ext r' M):=⟨by rw [C.out,<- s.out];exact nG rfl o.out D.out⟩
instance [o:GT x env v] [C:co P t v v'] [D:cd v' cs] [H:dY L L'] [s:ed L' n] [E:APP L' [.cells cs] r']:fS P ⟨d,.box t x,t',p,a,gd⟩ env (h0.ext L M) (.ptr (h0.zh.length+n) 0) (h0.ext r' M):=⟨by rw [H.out,<- E.out];exact zvf rfl o.out C.out D.out s.out⟩
instance [C:Ty P t td k] [D:GT x env (.ptr (h0.zh.length+j) off)] [J:GT y env v] [E:co P t v v'] [H:cd v' cs] [o:c9 cs k] [K:dY L L'] [I:cx j L' (.cells r)] [s:aT off cs r cs'] [i9:cq L' j (.cells cs') r'] :
  fS P ⟨d,.store t x y,t',p,a,gd⟩ env (h0.ext L M) xo (h0.ext r' M):=⟨by
 rw [K.out,<- i9.out];exact uE rfl C D.out J.out E.out H.out o.out I.out (jI (by have:=s.out.2;rw [o.out] at this;exact this)) s.out.1⟩
instance [C:TA P t k] [D:GT x env (.ptr (h0.zh.length+j) off)] [I:GT y env (.agg cs)] [o:c9 cs k] [J:dY L L'] [E:cx j L' (.cells r)] [s:aT off cs r cs'] [i9:cq L' j (.cells cs') r'] :
  fS P ⟨d,.store t x y,t',p,a,gd⟩ env (h0.ext L M) xo (h0.ext r' M):=⟨by
 obtain ⟨td,H,K⟩:=C.out;rw [J.out,<- i9.out];exact uE rfl H D.out I.out (zc (v:=.agg cs) rfl) rfl o.out E.out (jI (by have:=s.out.2;rw [o.out] at this;exact this)) s.out.1⟩
end
class b6 (l:List Oper) (j:Nat) (d:outParam Nat):Prop where
 out:(l[j]?).bind (·.dst)=some d
instance {d:Nat} {o:Op} {t:TypeId} {p:String} {a:Array Edge} {g:Option (Nat×Bool)} {l:List Oper}:b6 (⟨some d,o,t,p,a,g⟩::l) 0 d:=⟨rfl⟩
instance {o:Oper} {l:List Oper} {j d:Nat} [i:b6 l j d]:b6 (o::l) (j+1) d:=⟨by simpa using i.out⟩
class GB (w:AV) (want:Bool) (b:outParam Bool):Prop where
 out:∀(ops:Array Oper) (o:Oper) (env:List AV) (j d:Nat),o.guard=some (j,want)->(ops[j]?).bind (·.dst)=some d->env[d]?=some w->aG ops o env=some b
instance {b c want:Bool}:GB (gv b (.bool c)) want (b&&(c==want)):=⟨λ_ _ _ _ _ s o C=>zkm s o C⟩
instance {c want:Bool}:GB (.bool c) want (c==want):=⟨λ_ _ _ _ _ s o C=>by simp only [aG,s,o,C]⟩
class NE (a b:Nat):Prop where
 out:a ≠ b
instance {n:Nat}:NE 0 (n+1):=⟨by omega⟩
instance {n:Nat}:NE (n+1) 0:=⟨by omega⟩
instance {n m:Nat} [i:NE n m]:NE (n+1) (m+1):=⟨by have:=i.out;omega⟩
class NC (Ns:List Nat) (i:Nat):Prop where
 out:Ns.contains i=false
instance {i:Nat}:NC [] i:=⟨rfl⟩
instance {Ns:List Nat} {n i:Nat} [j:NE i n] [k:NC Ns i]:NC (n::Ns) i:=⟨by have:=k.out;have:=j.out;simp_all⟩
class PAD (n:Nat) (l:List AV) (r:outParam (List AV)):Prop where
 out:l++List.replicate (n - l.length) xo=r
instance:PAD 0 [] []:=⟨rfl⟩
instance {n:Nat} {r:List AV} [i:PAD n [] r]:PAD (n+1) [] (xo::r):=⟨by have:=i.out;simp only [lC,lF,Nat.sub_zero] at this ⊢;rw [jS,this]⟩
instance {n:Nat} {a:AV} {l r:List AV} [i:PAD n l r]:PAD (n+1) (a::l) (a::r):=⟨by have:=i.out;rw [<- this];simp only [m3,Nat.add_sub_add_right,kg]⟩
theorem tW (n:Nat) {k:Nat} {l r:List AV} (h:k=n) [i:PAD n l r]:l++List.replicate (k - l.length) xo=r:=by rw [h];exact i.out
class RL (P:Program) (env:List AV) (h:AH) (rs:List ResultVar) (vs:outParam (List AV)):Prop where
 out:t7 P env h rs=some vs
instance {P:Program} {env:List AV} {h:AH}:RL P env h [] []:=⟨rfl⟩
section
variable {P:Program} {env:List AV} {h:AH} {rs:List ResultVar} {vs cs cs' r:List AV} {t a k j:Nat} {L L':List q6} {M:List Nat} {v v':AV} {td:TypeDesc}
instance [i:GT (.tmp t) env v] [j:RL P env h rs vs]:RL P env h (.tmp t::rs) (v::vs):=⟨zit i.out j.out⟩
instance [o:Ty P t td k] [D:NA td] [s:GT (.tmp a) env (.ptr (h.zh.length+j) 0)] [I:dY L L'] [H:cx j L' (.cells (v::cs))] [C:co P t v v'] [E:RL P env (h.ext L M) rs vs]:RL P env (h.ext L M) (.cell a t::rs) (v'::vs):=⟨zkZ o s.out (by rw [I.out];exact H.out) (by rw [D.out];exact zB rfl) C.out E.out⟩
instance [o:TA P t k] [s:GT (.tmp a) env (.ptr (h.zh.length+j) 0)] [J:dY L L'] [H:cx j L' (.cells cs)] [C:c9 cs k] [D:RL P env (h.ext L M) rs vs]:RL P env (h.ext L M) (.cell a t::rs) (.agg cs::vs):=⟨by
 obtain ⟨td,E,I⟩:=o.out;have K:=C.out;exact zkZ E s.out (by rw [J.out];exact H.out) (by rw [I];exact ziQ (jI (by omega)) (by grind)) (zc (v:=.agg cs) rfl) D.out⟩
class TU (vs:List AV) (v:outParam AV):Prop where
 out:∀(P:Program) (fn:Func) (env:List AV) (h:AH),t7 P env h fn.results.toList=some vs->az P fn env h=some v
instance:TU [] (.fk []):=⟨λP fn env h e=>by simp only [az,e]⟩
instance:TU [v] v:=⟨λP fn env h e=>by simp only [az,e]⟩
instance:TU (v::v'::vs) (.fk (v::v'::vs)):=⟨λP fn env h e=>by simp only [az,e]⟩
theorem fr {K:AV->AH->Prop} {h0:AH} (C:fn.results=⟨rs⟩) [i:RL P env h rs vs] [j:TU vs v] (o:oR h0 K v h):rB P fn h0 K .ret env h:=by
 have s:=j.out P fn env h (by rw [C];exact i.out);simp only [rB,s];exact o
theorem fe (C:fn.results=⟨rs⟩) [i:RL P env (h.ext L M) rs vs] [j:TU vs v] (s:v'.low h.zh.length h.zs.length=true) (o:g6 v v'):rB P fn h (λD hh=>D=v'/\hh=h) .ret env (h.ext L M):=fr C (wa o s ⟨rfl,rfl⟩)
theorem fz (s:fn.results=⟨rs⟩) [i:RL P env (h.ext L M) rs vs] [j:TU vs v] (o:v.low h.zh.length h.zs.length=true):rB P fn h (λC hh=>C=v/\hh=h) .ret env (h.ext L M):=fe s o (g6.refl _)
end
class dF (P:Program) (env:List AV) (q:Bool) (xs:List Operand) (ts:List TypeId) (vs:outParam (List AV)):Prop where
 out:q=true->∃l,pH env xs ts=some l/\Fx P l vs
section
variable {P:Program} {env env' xs' vs fs cs:List AV} {q:Bool} {xs:List Operand} {ts:List TypeId} {t:TypeId} {x:Operand} {v v':AV} {d:Option Tmp} {p:String} {a:Array Edge} {g:FuncId} {h h':AH} {gd:Option (Nat×Bool)} {rest:List Oper} {Q:List AV->AH->Prop} {ops:Array Oper}
instance:dF P env q [] [] []:=⟨λ_=>⟨[],rfl,.nil⟩⟩
instance [i:GG x env q v] [j:co P t v v'] [k:dF P env q xs ts vs]:dF P env q (x::xs) (t::ts) (v'::vs):=⟨λo=>by
 obtain ⟨l,C,s⟩:=k.out o;exact ⟨_,xq (i.out o) C,.cons j.out s⟩⟩
theorem sc [i:dF P env q xs ts vs] (C:q=true):zj P ⟨d,.call ⟨.value (.func g),List.toArray xs,List.toArray ts⟩,t,p,a,gd⟩ env h=.call g vs:=by
 obtain ⟨l,s,o⟩:=i.out C;exact yb rfl rfl rfl s o
theorem dU [s:GG x env q (.fn (.func g) fs cs)] [i:dF P env q xs ts vs] (o:q=true):zj P ⟨d,.call ⟨.value x,List.toArray xs,List.toArray ts⟩,t,p,a,gd⟩ env h=.call g (fs++vs++cs):=by
 obtain ⟨l,D,C⟩:=i.out o;exact zb4 rfl rfl (s.out o) D C rfl
theorem cp [i:dF P env true xs ts vs] [j:ST d env v env'] (hs:Spec P g vs h λr h'=>r=v/\h'=h) (o:zu P ops Q rest env' h):zu P ops Q (⟨d,.call ⟨.value (.func g),List.toArray xs,List.toArray ts⟩,t,p,a,none⟩::rest) env h :=
 yf rfl (sc rfl) hs j.out o
end
theorem gg {x:Operand} {env:List AV} {v:AV} [i:GT x env v]:yu env x=some v:=i.out
theorem ss {d:Option Tmp} {env env':List AV} {v:AV} [i:ST d env v env']:tq d env v=some env':=i.out
theorem oi {α:Type} {a b:α} (h:some a=some b):a=b:=kK h
class cQ (a:AV) (n:outParam Nat):Prop where
 out:ay a=some n
section
variable {α:Type} {z n i t q' p k':Nat} {row:α->List AV} {L:List α} {es:List (List AV)} {qo:Option Nat}
instance:cQ (.sl z (L.map row)) L.length:=⟨vC⟩
instance:cQ (.gW qo z (L.map row)) L.length:=⟨zpY⟩
instance (priority:=low):cQ (.sl z es) es.length:=⟨rfl⟩
instance (priority:=low):cQ (.gW qo z es) es.length:=⟨rfl⟩
instance:cQ (.fm i t z n) n:=⟨rfl⟩
instance:cQ (.d8 z i t n) n:=⟨rfl⟩
instance:cQ (.el i t z n p) (n - p):=⟨rfl⟩
end
class ISS (d:TypeDesc):Prop where
 out:d=.string
instance:ISS .string:=⟨rfl⟩
class LN (P:Program) (t:TypeId) (v:AV) (n:outParam Nat):Prop where
 out:∀(o:Oper) (env:List AV) (h:AH) (c:Call) (x:Operand),o.op=.call c->c.callee=.builtin .len->c.args=#[x]->c.argTypes=#[t]->yu env x=some v->zj P o env h=.len n (.int .i64 n) h
instance {P:Program} {t:TypeId} {d:TypeDesc} {k:Nat} {s:List UInt8} [i:Ty P t d k] [j:ISS d]:LN P t (.str s) s.length:=⟨λo env h c x E C I D H=>by
 have:=j.out;subst this;exact zin E C I D i H⟩
instance {P:Program} {t e:TypeId} {k n:Nat} {v:AV} [i:El P t e k] [j:cQ v n]:LN P t v n:=⟨λo env h c x D s H C E=>x9 D s H C i E j.out⟩
class ISL (a:AV) (α:outParam Type) (z:outParam Nat) (row:outParam (α->List AV)) (L:outParam (List α)):Prop where
 out:zo0 a z row L
instance {α:Type} {z:Nat} {row:α->List AV} {L:List α}:ISL (.sl z (L.map row)) α z row L:=⟨oL⟩
instance {α:Type} {q:Option Nat} {z:Nat} {row:α->List AV} {L:List α}:ISL (.gW q z (L.map row)) α z row L:=⟨zxA⟩
section
variable {P:Program} {env env':List AV} {q want b:Bool} {t t' e:TypeId} {x i:Operand} {v v' w:AV} {d:Option Tmp} {p:String} {a:Array Edge} {h:AH} {rest l:List Oper} {Q:List AV->AH->Prop} {ops:Array Oper} {n j m z:Nat} {nn:Int} {k:IntKind} {α:Type} {row:α->List AV} {L:List α} {y:α} {Ns:List Nat} {F:Nat->AH->Prop} {i9:Nat}
theorem ln [o:GT x env v] [s:LN P t v n] [C:ST d env (.int .i64 n) env'] (D:n<=maxLen->zu P ops Q rest env' h):zu P ops Q (⟨d,.call ⟨.builtin .len,List.toArray [x],List.toArray [t]⟩,t',p,a,none⟩::rest) env h :=
 zlk rfl (s.out _ _ _ _ _ rfl rfl rfl rfl o.out) C.out D
theorem dm [C:b6 l j m] [J:GT (.tmp m) env w] [H:GB w want b] [o:GG x env b v] [E:LN P t v n] [D:ST d env (gv b (.int .i64 n)) env'] (s:(b=true->n<=maxLen)->zu P (List.toArray l) Q rest env' h) :
  zu P (List.toArray l) Q (⟨d,.call ⟨.builtin .len,List.toArray [x],List.toArray [t]⟩,t',p,a,some (j,want)⟩::rest) env h :=
 znq (H.out _ _ _ _ _ rfl (by simpa using C.out) J.out) (λI=>E.out _ _ _ _ _ rfl rfl rfl rfl (o.out I)) D.out s
theorem ix [o:El P t e z] [s:GT x env v] [I:GT i env (.int k nn)] [D:ISL v α z row L] (E:zS L nn=some y) [H:ST d env (.fI (row y)) env'] (C:zu P ops Q rest env' h):zu P ops Q (⟨d,.indexAddr t x i,t',p,a,none⟩::rest) env h :=
 zy rfl (ol rfl o s.out I.out D.out E) H.out C
theorem gix [Inhabited α] [E:b6 l j m] [R:GT (.tmp m) env w] [O:GB w want b] [s:El P t e z] [C:GG x env b v] [K:GG i env b (.int k nn)] [H:ISL v α z row L] (I:b=true->0<=nn/\nn < L.length) [J:ST d env (gv b (.fI (row (L.getD nn.toNat default)))) env'] (D:zu P (List.toArray l) Q rest env' h) :
  zu P (List.toArray l) Q (⟨d,.indexAddr t x i,t',p,a,some (j,want)⟩::rest) env h :=
 vN (O.out _ _ _ _ _ rfl (by simpa using E.out) R.out) (λo=>zb2 default rfl s (C.out o) (K.out o) H.out (I o)) J.out D
theorem vE [Inhabited α] [NC Ns i9] [E:b6 l j m] [R:GT (.tmp m) env w] [O:GB w want b] [s:El P t e z] [C:GG x env b v] [K:GG i env b (.int k nn)] [H:ISL v α z row L] (I:b=true->0<=nn/\nn < L.length) [J:ST d env (gv b (.fI (row (L.getD nn.toNat default)))) env'] (D:zI P (List.toArray l) Ns F Q (i9+1) rest env' h) :
  zI P (List.toArray l) Ns F Q i9 (⟨d,.indexAddr t x i,t',p,a,some (j,want)⟩::rest) env h :=
 wV NC.out (O.out _ _ _ _ _ rfl (by simpa using E.out) R.out) (λo=>zb2 default rfl s (C.out o) (K.out o) H.out (I o)) J.out D
theorem eU [NC Ns i9] [o:El P t e z] [s:GT x env v] [I:GT i env (.int k nn)] [D:ISL v α z row L] (E:zS L nn=some y) [H:ST d env (.fI (row y)) env'] (C:zI P ops Ns F Q (i9+1) rest env' h):zI P ops Ns F Q i9 (⟨d,.indexAddr t x i,t',p,a,none⟩::rest) env h :=
 yn NC.out rfl (ol rfl o s.out I.out D.out E) H.out C
end
abbrev z7 (v:AV) (h:AH):AV->AH->Prop:=λrr hh=>rr=v/\hh=h
class LEV (a b:AV):Prop where
 out:g6 a b
class f9 (a b:List AV):Prop where
 o:fd a b
instance {a:AV}:LEV a a:=⟨g6.refl _⟩
instance {q:Option Nat} {k:Nat} {e:List (List AV)}:LEV (.gW q k e) (.sl k e):=⟨g6.gW _ _ _⟩
instance:f9 [] []:=⟨fd.nil⟩
instance {a:AV} {r s:List AV} [i:f9 r s]:f9 (a::r) (.any::s):=⟨.drop i.o⟩
instance {a b:AV} {r s:List AV} [j:LEV a b] [i:f9 r s]:f9 (a::r) (b::s):=⟨.cons j.out i.o⟩
instance {l r:List AV} [i:f9 l r]:LEV (.fk l) (.fk r):=⟨.fk i.o⟩
class R (p:Prop) (G:outParam Prop):Prop where
 r:G->p
instance (priority:=low) R.refl {p:Prop}:R p p:=⟨id⟩
section
variable {P:Program} {ops:Array Oper} {F:Nat->AH->Prop} {Q:List AV->AH->Prop} {QS:Exit->List AV->AH->Prop} {rest l:List Oper} {env env':List AV} {h h0 h':AH} {G:Prop} {d:Option Tmp} {op:Op} {t:TypeId} {p:String} {a:Array Edge} {x:Operand} {v v' w:AV} {id i j n:Nat} {A B:Code} {want b:Bool} {N:List AV->AH->Prop}
instance [o:cr P ⟨d,op,t,p,a,none⟩ env h true v] [s:ST d env v env'] [D:R (zu P ops Q rest env' h) G]:R (zu P ops Q (⟨d,op,t,p,a,none⟩::rest) env h) G:=⟨λC=>zy rfl (o.out rfl) s.out (D.r C)⟩
instance [o:cr P ⟨d,op,t,p,a,none⟩ env h true v] [s:ST d env v env'] [D:R (zI P ops [] F Q (i+1) rest env' h) G]:R (zI P ops [] F Q i (⟨d,op,t,p,a,none⟩::rest) env h) G:=⟨λC=>yn rfl rfl (o.out rfl) s.out (D.r C)⟩
instance [o:b6 l j n] [s:GT (.tmp n) env w] [H:GB w want b] [E:cr P ⟨d,op,t,p,a,some (j,want)⟩ env h b v] [C:ST d env (gv b v) env'] [D:R (zu P (List.toArray l) Q rest env' h) G]:R (zu P (List.toArray l) Q (⟨d,op,t,p,a,some (j,want)⟩::rest) env h) G:=⟨λI=>vN (H.out _ _ _ _ _ rfl (by simpa using o.out) s.out) E.out C.out (D.r I)⟩
instance [o:b6 l j n] [s:GT (.tmp n) env w] [H:GB w want b] [E:cr P ⟨d,op,t,p,a,some (j,want)⟩ env h b v] [C:ST d env (gv b v) env'] [D:R (zI P (List.toArray l) [] F Q (i+1) rest env' h) G]:R (zI P (List.toArray l) [] F Q i (⟨d,op,t,p,a,some (j,want)⟩::rest) env h) G:=⟨λI=>wV rfl (H.out _ _ _ _ _ rfl (by simpa using o.out) s.out) E.out C.out (D.r I)⟩
instance [o:fS P ⟨d,op,t,p,a,none⟩ env h v h'] [s:ST d env v env'] [D:R (zu P ops Q rest env' h') G]:R (zu P ops Q (⟨d,op,t,p,a,none⟩::rest) env h) G:=⟨λC=>zy rfl o.out s.out (D.r C)⟩
instance [i:R (Q env h) G]:R (zu P ops Q [] env h) G:=⟨λo=>yG (i.r o)⟩
instance {Ns:List Nat} {i:Nat} [j:R (Q env h) G]:R (zI P ops Ns F Q i [] env h) G:=⟨λo=>zfi (j.r o)⟩
instance (priority:=low) {Ns:List Nat} [o:NC Ns i] [D:cr P ⟨d,op,t,p,a,none⟩ env h true v] [s:ST d env v env'] [C:R (zI P ops Ns F Q (i+1) rest env' h) G]:R (zI P ops Ns F Q i (⟨d,op,t,p,a,none⟩::rest) env h) G:=⟨λE=>yn o.out rfl (D.out rfl) s.out (C.r E)⟩
instance (priority:=low) {Ns:List Nat} [o:NC Ns i] [s:b6 l j n] [C:GT (.tmp n) env w] [I:GB w want b] [H:cr P ⟨d,op,t,p,a,some (j,want)⟩ env h b v] [D:ST d env (gv b v) env'] [E:R (zI P (List.toArray l) Ns F Q (i+1) rest env' h) G]:R (zI P (List.toArray l) Ns F Q i (⟨d,op,t,p,a,some (j,want)⟩::rest) env h) G:=⟨λJ=>wV o.out (I.out _ _ _ _ _ rfl (by simpa using s.out) C.out) H.out D.out (E.r J)⟩
instance [i:R (wO P A (aH P h B QS) env h) G]:R (wO P (.seq A B) QS env h) G:=⟨λk=>wK (i.r k)⟩
instance [i:R (zu P (List.toArray l) (QS .normal) l env h) G]:R (wO P (.region id (List.toArray l) false) QS env h) G:=⟨λk=>yK (i.r k)⟩
instance [i:R (wO P A (pF id QS) env h) G]:R (wO P (.block id A) QS env h) G:=⟨λk=>nw (i.r k)⟩
instance [i:R (QS .normal env h) G]:R (wO P .skip QS env h) G:=⟨λk=>ziu (i.r k)⟩
instance [i:R (QS .normal env h) G]:R (wO P (.label id) QS env h) G:=⟨λk=>zpp (i.r k)⟩
instance [i:R (QS .ret env h) G]:R (wO P .ret QS env h) G:=⟨λk=>zna (i.r k)⟩
instance [i:R (QS (.exit id) env h) G]:R (wO P (.exit id) QS env h) G:=⟨λk=>zk5 (i.r k)⟩
instance [i:R (wO P B QS env h) G]:R (aH P h0 B QS .normal env h) G:=⟨λk=>ww (i.r k)⟩
instance [i:R (QS .ret env h) G]:R (aH P h0 B QS .ret env h) G:=⟨λk=>zk7 (i.r k)⟩
instance [i:R (QS (.exit id) env h) G]:R (aH P h0 B QS (.exit id) env h) G:=⟨λk=>zaI (i.r k)⟩
instance [i:R (QS .normal env h) G]:R (pF id QS .normal env h) G:=⟨λk=>zhg (i.r k)⟩
instance [i:R (QS .ret env h) G]:R (pF id QS .ret env h) G:=⟨λk=>zhf (i.r k)⟩
instance [i:R (QS .normal env h) G]:R (pF id QS (.exit id) env h) G:=⟨λk=>mC (i.r k)⟩
instance [i:R (QS .ret env h) G]:R (tG N QS .ret env h) G:=⟨λk=>zjQ (i.r k)⟩
instance [i:R (QS (.exit id) env h) G]:R (tG N QS (.exit id) env h) G:=⟨λk=>mB (i.r k)⟩
instance [i:R (N env h) G]:R (tG N QS .normal env h) G:=⟨λk=>zk8 (i.r k)⟩
instance {fn:Func} {K:AV->AH->Prop} [i:R (rB P fn h0 K .ret env h) G]:R (rB P fn h0 K .normal env h) G:=⟨λk=>ztD (i.r k)⟩
end
end Go.Vv
namespace Go.Vv
open Go Go.RowKit
variable {n i:Nat} {B':List q6} {T':List Nat} {t e:TypeId} {x:Operand}
section
variable {B:Nat} {w0 w:World} {g:Gh} {h:AH}
theorem zbs {α:Type} {l:List α} {x:α} (e:(l.take n)[i]?=some x):l[i]?=some x:=by
 grind
theorem Rel.freeze (r:Rel B w0 g h w) {q i k:Nat} {es:List (List AV)} (Q:h.zh[q]?=some (.row i k es)) :
  ∃g',g.le g'/\Rel B w0 g' { h.put q .dead with zs:=h.zs.set i (es.length+1) } w/\g'.δ=g.δ/\∀N v,V g (.fm N i k es.length) v->V g' (.sl k es) v:=by
 obtain ⟨K,t,F,C,I,A,H,E⟩:=r.rowAt Q
 let T:TI:=⟨es.length+1,none,true⟩
 have y:t.n < T.n:=by grind
 have D:=Gh.fQ (g:=g) (t':=T) F y C.symm;have O:=r.bh (t':=T) (nb:=.dead) F y C rfl K Q trivial (λ_ _ _ e=>by cases e) (λ_ _ _ e=>by cases e) (λ_ _ e=>by cases e);rcases E with rfl | ⟨b,o,e,cs,ty,k1,k2,k3,k4,k5⟩
 ·refine ⟨_,D,O,rfl,λN v m=>?_⟩;simp only [V] at m ⊢
  grind
 ·have z:∀(j:Nat) (u:TI) (l G:Nat),(g.fv i T).τ[j]?=some u->u.loc=some (b,l,G)->False:=by
   intro j u l G s J;simp only [Gh.fv] at s;by_cases hji:j=i
   ·grind
   ·rw [lV (λe=>hji e.symm)] at s;exact hji (r.fO _ _ _ _ b _ _ s F J k1)
  have Y:=O.cz (b:=b) (f:=λj=>if o<=j/\j < o+es.length * k then cs[j]? else none)
   (λj v m=>by
    split at m
    ·rw [cell_of_row w b j cs ty (0,0) k2];exact m
    ·cases m)
   (λj c s _=>(r.sep j c i t b _ s F k1).symm)
   (λj u l G s J=>(z j u l G s J).elim)
  have p:=D.trans (Gh.dw (g.fv i T) b λj=>if o<=j/\j < o+es.length * k then cs[j]? else none);refine ⟨_,p,Y,rfl,λN v m=>?_⟩;simp only [V] at m ⊢;obtain ⟨a,c,rfl,U,S,R,W,_,_,d⟩:=m;obtain rfl:t=R:=by simp_all
  refine ⟨a,c,rfl,U,S,?_⟩;rcases d with ⟨h0,_⟩ | ⟨b',X,rfl,d⟩
  ·simp_all
  ·have d:=d I.symm;rw [k1] at d;injection d with d;injection d with Z d;injection d with e2 _;obtain rfl:o=X:=by omega
   subst Z;refine .inr ⟨b,o,rfl,ej.2 ⟨A,VC.c5 (k3.mono p) H λj v m=>?_⟩⟩;rw [m4] at m;split at m
   ·rename_i s;rw [lx,lB] at m;simp only [Gh.cz,Gh.fv,nv]
    simp_all
   ·cases m
end

theorem zlW {P:Program} {B:Nat} {w0 w:World} [G:ax P B w0] (hb:Below B w0 w):ax P w.heap.size w :=
 ⟨World.ShapedOpen.keptBut G.sh ((hb.mono G.sz).frame (λ_=>False)) (λ_ h=>h.elim),oA _,zj4 G.lay G.sz hb⟩
def AV.eI:AV->Bool
 | .bool _ | .int _ _ | .str _=>true
 | .fk [.bool _] | .fk [.int _ _] | .fk [.int _ _,.bool _]=>true
 | _=>false
theorem V.eI {g g':Gh} {a:AV} {v:Value} (hs:a.eI=true) (b:V g a v):V g' a v:=by
 unfold AV.eI at hs;split at hs <;> first | (simpa only [V,VL] using b) | cases hs
theorem zoH {B:Nat} {w0 w:World} {g:Gh} {h:AH} (r:Rel B w0 g h w):(g.cut 0 0).lv (g0 w) :=
 ⟨λb j v e=>by
     have e:g.Φ b j=some v:=e;simp only [g0,lc (r.ef e)];exact r.eF b j v e,λi c e=>by simp [Gh.cut] at e,λi t e=>by simp [Gh.cut] at e⟩
theorem ap.bQ {B:Nat} {w0 w:World} {g:Gh} {h:AH} (r:Rel B w0 g h w) {id t k n:Nat} {es:List (List AV)} (q:h.gZ id=some (.row t k es)) (G:n=es.length) {v:Value} (f:V g (.fm id t k n) v):V (g0 w) (.sl k es) v:=by
 subst G;obtain ⟨_,H,C,D,u,m,l,p⟩:=r.rowAt q;simp only [V] at f ⊢;obtain ⟨a,c,rfl,A,z,y,E,_,_,d⟩:=f;obtain rfl:H=y:=by simp_all
 refine ⟨a,c,rfl,A,z,?_⟩;rcases d with ⟨h0,_⟩ | ⟨J,F,rfl,d⟩
 ·simp_all
 ·have d:=d u.symm;rcases p with rfl | ⟨b,o,e,cs,ty,k1,k2,k3,O,K⟩
  ·simp_all
  ·rw [k1] at d;injection d with d;injection d with I d;injection d with N _;obtain rfl:o=F:=by omega
   subst I;have q:b < w.heap.size:=(l9.1 k2).1;have s:VA (g0 w) es.flatten ((cs.toList.drop o).take (es.length * k)):=VA.fl (zoH r) _ _ (VA.cut _ _ (qa l) k3);refine .inr ⟨b,o,rfl,ej.2 ⟨m,VC.c5 s l λj v f=>?_⟩⟩;rw [m4] at f;split at f
   ·rw [lx,lB] at f;simp only [g0,lc q];rw [cell_of_row w b (o+j) cs ty (0,0) k2];exact f
   ·cases f
mutual
inductive ap (h:AH):AV->AV->Prop
 | low (a:AV) (hl:a.low 0 0=true):ap h a a
 | row (id t k n:Nat) (es:List (List AV)) (hb:h.gZ id=some (.row t k es)) (hn:n=es.length):ap h (.fm id t k n) (.sl k es)
 | gW (q:Option Nat) (k:Nat) (es:List (List AV)) (hl:(AV.sl k es).low 0 0=true):ap h (.gW q k es) (.sl k es)
 | agg {cs bs:List AV} (x:aW h cs bs) (ho:bs.all AV.one=true):ap h (.agg cs) (.agg bs)
inductive aW (h:AH):List AV->List AV->Prop
 | nil:aW h [] []
 | cons {a b:AV} {xs bs:List AV} (x:ap h a b) (y:aW h xs bs):aW h (a::xs) (b::bs)
end
theorem V.zx5 {B:Nat} {w0 w:World} {g:Gh} {h:AH} (r:Rel B w0 g h w) {a:AV} {v:Value} (b:a.low 0 0=true) (c:V g a v):V (g0 w) a v:=V.fl (zoH r) _ _ (V.cut _ _ b c)
mutual
theorem ap.sound {B:Nat} {w0 w:World} {g:Gh} {h:AH} (r:Rel B w0 g h w):∀{a b:AV} {v:Value},ap h a b->V g a v->V (g0 w) b v
 | _,_,_,.low _ hl,hv=>V.zx5 r hl hv
 | _,_,_,.row _ _ _ _ _ hb hn,hv=>ap.bQ r hb hn hv
 | _,_,_,.gW q k es hl,hv=>V.zx5 r hl (g6.gW q k es g _ hv)
 | _,_,_,.agg x ho,hv=>by
  simp only [V] at hv ⊢;obtain ⟨vs,rfl,c⟩:=hv;exact ⟨vs,rfl,VA.mk (aW.sound r x c.f4) ho⟩
theorem aW.sound {B:Nat} {w0 w:World} {g:Gh} {h:AH} (r:Rel B w0 g h w):∀{xs bs:List AV} {vs:List Value},aW h xs bs->VL g xs vs->VL (g0 w) bs vs
 | _,_,_,.nil,hv=>by simpa only [VL] using hv
 | _,_,_,.cons x y,hv=>by
  simp only [VL] at hv ⊢;obtain ⟨v,s,rfl,c,d⟩:=hv;exact ⟨v,s,rfl,ap.sound r x c,aW.sound r y d⟩
end
theorem wY {P:Program} {f:FuncId} {xs bs:List AV} {h:AH} {R:AV} {K:AV->AH->Prop} (j:aW h xs bs) (hs:R.eI=true) (s:Spec P f bs h0 K) (d:∀a hh,K a hh->a=R) :
  Spec P f xs h (λa hh=>a=R/\hh=h) :=
 ⟨s.1,λB w0 _ g w vs r m=>by
  haveI:=zlW (P:=P) r.below;refine (s.2 w.heap.size w (g0 w) w vs (zvB w) (j.sound r m)).mono ?_
  rintro e w' ⟨v,x,p,g',rfl,c,_,b,l⟩
  obtain rfl:=d _ _ c;exact ⟨v,_,h,g,rfl,⟨rfl,rfl⟩,Gh.le.refl g,r.beyond b.below,V.eI hs l⟩⟩

theorem V.zx3 {g:Gh} {k:Nat} {v:Value} {q:Nat} (d:V g (.gW none k []) v):V ((g.fD ⟨0,none,true⟩).fp none) (.fm q g.τ.length k 0) v:=by
 simp only [V] at d ⊢;obtain ⟨a,c,rfl,j,f,_,b⟩:=d;have b:c=0:=b;refine ⟨a,c,rfl,j,f,⟨0,none,true⟩,?_,rfl,oA _,.inl ⟨rfl,b⟩⟩;simp [Gh.fD,Gh.fp]
theorem zfN {g:Gh} {w:World} {k:Nat}:ep ((g.fD ⟨0,none,true⟩).fp none) w g.τ.length k [] :=
 ⟨⟨0,none,true⟩,by simp [Gh.fD,Gh.fp],rfl,rfl,by simp,by simp,.inl rfl⟩
theorem dR.wk {hd h b:AH} {env a:List AV} (k:dR env h a b):wk hd env h a b:=λB w0 w _ f g vs _ c r d=>by
 obtain ⟨g',k1,k2,k3⟩:=k B w0 w g vs r d;exact ⟨g',c.trans k1,k2,k3,k1.del⟩
theorem qF {h:AH} {env b:List AV} {B:List q6} {T:List Nat} {d k m:Nat} (C:yu env (.tmp d)=some (.gW none k [])) (z:B.length=n) (A:T.length=m)
  (s:tq (some d) env (.fm (h.zh.length+n) (h.zs.length+m) k 0)=some b) (D:B++[.row (h.zs.length+m) k []]=B') (y:T++[0]=T') :
  dR env (h.ext B T) b (h.ext B' T'):=λ_ _ w g vs r u=>by
 subst z A D y;simp only [tq,p3] at s;subst s;have c:g.τ.length=h.zs.length+T.length:=by rw [r.fw];simp [AH.ext]
 have f:=(g.fq ⟨0,none,true⟩).trans (Gh.fc _ none);have q:=r.eo ⟨0,none,true⟩ k [] (λ_ _ _ h=>by cases h) (λ_ _ h=>by cases h) zfN;have e:(({ (h.ext B T) with zs:=(h.ext B T).zs++[0] }:AH).new (.row g.τ.length k []))=h.ext (B++[.row (h.zs.length+T.length) k []]) (T++[0]):=by
  rw [c];simp [AH.ext,AH.new,li]
 rw [e] at q;refine ⟨_,f,q,VL.dL (VL.mono f _ _ u) d _ λv l=>?_⟩;obtain ⟨a,j,E⟩:=u.aR _ _ l;have p:env[d]?=some (.gW none k []):=C;rw [p] at j;injection j with j;subst j;rw [<- c];exact E.zx3

mutual
inductive eX (i k:Nat) (es:List (List AV)):AV->AV->Prop
 | same (a:AV):eX i k es a a
 | hit (q:Nat):eX i k es (.fm q i k es.length) (.sl k es)
 | fA (q n:Nat) (hn:n=es.length):eX i k es (.fm q i k n) (.sl k es)
 | agg {cs bs:List AV} (x:eG i k es cs bs) (ho:bs.all AV.one=true):eX i k es (.agg cs) (.agg bs)
 | fk {cs bs:List AV} (x:eG i k es cs bs):eX i k es (.fk cs) (.fk bs)
inductive eG (i k:Nat) (es:List (List AV)):List AV->List AV->Prop
 | refl (xs:List AV):eG i k es xs xs
 | cons {a b:AV} {xs bs:List AV} (x:eX i k es a b) (y:eG i k es xs bs):eG i k es (a::xs) (b::bs)
end
theorem eG.s {k:Nat} {es:List (List AV)} {a:AV} {xs bs:List AV} (y:eG i k es xs bs):eG i k es (a::xs) (a::bs):=.cons (.same _) y
theorem eG.s4 {k:Nat} {es:List (List AV)} {a b c d:AV} {xs bs:List AV} (y:eG i k es xs bs):eG i k es (a::b::c::d::xs) (a::b::c::d::bs):=.s (.s (.s (.s y)))
theorem eG.dV {k:Nat} {es:List (List AV)} {a b c d e f g h j l m n o p q r:AV} {xs bs:List AV} (y:eG i k es xs bs):eG i k es (a::b::c::d::e::f::g::h::j::l::m::n::o::p::q::r::xs) (a::b::c::d::e::f::g::h::j::l::m::n::o::p::q::r::bs):=.s4 (.s4 (.s4 (.s4 y)))
mutual
theorem eX.sound {g g':Gh} (c:g.le g') {i k:Nat} {es:List (List AV)} (d:∀q v,V g (.fm q i k es.length) v->V g' (.sl k es) v):∀{a b:AV} {v:Value},eX i k es a b->V g a v->V g' b v
 | _,_,_,.same _,hv=>hv.mono c
 | _,_,_,.hit q,hv=>d q _ hv
 | _,_,_,.fA q n hn,hv=>by grind
 | _,_,_,.agg x ho,hv=>by
  simp only [V] at hv ⊢;obtain ⟨vs,rfl,f⟩:=hv;exact ⟨vs,rfl,VA.mk (eG.sound c d x f.f4) ho⟩
 | _,_,_,.fk x,hv=>by
  simp only [V] at hv ⊢;obtain ⟨vs,rfl,f⟩:=hv;exact ⟨vs,rfl,eG.sound c d x f⟩
theorem eG.sound {g g':Gh} (c:g.le g') {i k:Nat} {es:List (List AV)} (d:∀q v,V g (.fm q i k es.length) v->V g' (.sl k es) v):∀{xs bs:List AV} {vs:List Value},eG i k es xs bs->VL g xs vs->VL g' bs vs
 | _,_,_,.refl _,hv=>hv.mono c
 | _,_,_,.cons x y,hv=>by
  simp only [VL] at hv ⊢;obtain ⟨v,s,rfl,f,j⟩:=hv;exact ⟨v,s,rfl,eX.sound c d x f,eG.sound c d y j⟩
end
theorem yd {h:AH} {env a:List AV} {B:List q6} {T:List Nat} {j m k:Nat} {es:List (List AV)} (f:B[j]?=some (.row (h.zs.length+m) k es)) (q:eG (h.zs.length+m) k es env a)
  (v:B.set j .dead=B') (l:T.set m (es.length+1)=T'):dR env (h.ext B T) a (h.ext B' T'):=λ_ _ w g vs r u=>by
 subst v l;have c:(h.ext B T).zh[h.zh.length+j]?=some (.row (h.zs.length+m) k es):=by
  simp only [AH.ext];rw [pa (by omega),la];exact f
 obtain ⟨g',b,d,p,s⟩:=r.freeze c;have e:({ (h.ext B T).put (h.zh.length+j) .dead with zs:=(h.ext B T).zs.set (h.zs.length+m) (es.length+1) }:AH)=h.ext (B.set j .dead) (T.set m (es.length+1)):=by
  simp only [AH.ext,AH.put,AH.mk.injEq]
  simp_all
 rw [e] at d;exact ⟨g',b,d,q.sound b s u⟩

section
variable {α:Type} {row:α->List AV} {L M:List α} {k:Nat}
theorem pt (a:∀x,(row x).length=k):∀L:List α,(L.map row).flatten.length=L.length * k
 | []=>by simp
 | x::t=>by simp only [ld,lT,ng,m3,pt a t,a x,jx];omega
theorem zcE (a:∀x,(row x).length=k):∀(L:List α) (i:Nat),(L.map row).flatten.drop (i * k)=((L.drop i).map row).flatten
 | [],i=>by simp
 | x::t,0=>by simp
 | x::t,i+1=>by
  rw [ld,lT,jx,gO,<- kp,i5 (a x),zcE a t i];rfl
theorem zcD (a:∀x,(row x).length=k):∀(L:List α) (i:Nat),(L.map row).flatten.take (i * k)=((L.take i).map row).flatten
 | [],i=>by simp
 | x::t,0=>by simp
 | x::t,i+1=>by
  rw [ld,lT,jx,gO,kz,lm (by simp_all),a x,la,zcD a t i];rfl
theorem zmb {y:α} (a:L[i]?=some y):L.drop i=y::L.drop (i+1):=by
 obtain ⟨h,rfl⟩:=tm.1 a
 simp_all
theorem zp0 (b:∀x,(row x).length=k) {d:Bool} {m i off:Nat} {y:α} {v:AV} (f:L[i]?=some y) (a:dW d m off (row y)=some v) (l:0 < m):dW d m (i * k+off) (L.map row).flatten=some v:=by
 have e:(L.map row).flatten.drop (i * k)=row y++((L.drop (i+1)).map row).flatten:=by rw [zcE b,zmb f];rfl
 have hi:i < L.length:=(tm.1 f).1;have j:(i+1) * k<=L.length * k:=l5 k hi;rw [jx] at j;unfold dW at a ⊢;cases d with
 | true =>
  simp only [nv] at a ⊢;split at a
  ·rename_i c;rw [b y] at c;rw [lc (by rw [pt b];omega),<- kp,e,jy (by grind),lY (by grind)];exact a
  ·cases a
 | false =>
  simp only [tx,lg] at a ⊢;have p:off < (row y).length:=(tm.1 a).1;have:(L.map row).flatten[i * k+off]?=((L.map row).flatten.drop (i * k))[off]?:=by grind
  grind
theorem zev (a:∀x,(row x).length=k):∀L:List α,rows k L.length (L.map row).flatten=L.map row
 | []=>rfl
 | x::t=>by
  simp only [m3,rows,ld,lT];rw [gL (a x),i5 (a x),zev a t]
theorem zjD (a:∀x,(row x).length=k) {i off:Nat} {y y':α} {vs:List AV} (c:L[i]?=some y) (hs:yI (row y) off vs=row y') (l:off+vs.length<=k) :
  rows k L.length (yI (L.map row).flatten (i * k+off) vs)=(L.set i y').map row:=by
 have hi:i < L.length:=(tm.1 c).1;have f:(L.map row).flatten=((L.take i).map row).flatten++(row y++((L.drop (i+1)).map row).flatten):=by
  conv=>lhs;rw [<- kX i L,zmb c]
  simp
 have b:((L.take i).map row).flatten.length=i * k:=by rw [pt a,kh,j7 (by omega)]
 have j:yI (L.map row).flatten (i * k+off) vs=((L.set i y').map row).flatten:=by
  rw [List.set_eq_take_append_cons_drop,lc hi];simp only [ki,ld,jo,lT,<- hs];rw [f];unfold yI;have d:=a y;rw [kz,b,lm (by omega),la,lY (by omega)];rw [jw,jF,b,lZ (by omega),la,lC,jy (by omega)]
  simp_all
 rw [j];have:=zev a (L.set i y')
 rwa [ly] at this
variable {P:Program} {o:Oper} {env:List AV} {h:AH} {B:List q6} {T:List Nat}
theorem zsB {i:Operand} {id q:Nat} {d:IntKind} {z:Int} (b:o.op=.indexAddr t x i) (c:El P t e k) (f:yu env x=some (.fm id q k n)) (hi:yu env i=some (.int d z)) (a:0<=z/\z < n) :
  zj P o env h=.ok (.fU id q k n (z.toNat * k+0)) h:=mr b c f hi (by simp only [uL];rw [lc ⟨trivial,a.1,a.2⟩];rfl)
theorem vn (f:∀x,(row x).length=k) {t:TypeId} {d:TypeDesc} {m i q n z off:Nat} {x:Operand} {y:α} {v a:AV} (l:o.op=.load t x) (b:Ty P t d m) (s:0 < m) (r:yu env x=some (.fU (h.zh.length+i) q k n (z * k+off)))
  (c:B[i]?=some (.row q k (L.map row))) (A:L.length=n) (p:L[z]?=some y) (u:dW (ye d) m off (row y)=some v) (j:w6 P t v=a):zj P o env (h.ext B T)=.ok a (h.ext B T):=by
 refine zfJ l b r ?_ j;simp only [tU,zW,c];rw [lc ⟨trivial,trivial,by simp_all⟩];exact zp0 f p u s
theorem ql (l:∀x,(row x).length=k) {t:TypeId} {d:TypeDesc} {m i q n z off:Nat} {x w:Operand} {y y':α} {b j:AV} {vs us:List AV} {B':List q6} (C:o.op=.store t x w) (s:Ty P t d m) (D:yu env x=some (.fU (h.zh.length+i) q k n (z * k+off)))
  (v:yu env w=some b) (A:w6 P t b=j) (H:j.cells?=some vs) (p:vs.length=m) (c:xH vs=some us) (u:B[i]?=some (.row q k (L.map row))) (E:L.length=n) (r:L[z]?=some y) (F:off+m<=k)
  (hs:yI (row y) off us=row y') (G:B.set i (.row q k ((L.set z y').map row))=B'):zj P o env (h.ext B T)=.ok xo (h.ext B' T):=by
 refine zes C s D v A ?_;simp only [p7,H,zW,u];have f:z < L.length:=(tm.1 r).1;have a:(z+1) * k<=L.length * k:=l5 k f;rw [jx] at a;rw [lc ⟨trivial,trivial,by simp_all,p,by rw [pt l];omega⟩,c];simp only [<- E];rw [zjD l r hs (by rw [tp c,p];omega),wU,G]
theorem zdV {c:Call} {y:Operand} {u s:TypeId} {k' j:Nat} {a b p:AV} (v:o.op=.call c) (H:c.callee=.builtin .append) (hs:c.args=#[x,y]) (q:c.argTypes=#[t,u]) (C:El P t e k)
  (f:El P u s k') (D:yu env x=some a) (A:yu env y=some b) (G:w6 P t a=.fm (h.zh.length+i) (h.zs.length+j) k n) (r:w6 P u b=p) (E:pI k p=some (M.map row)) (K:L.length+M.length<=lim)
  (hi:B[i]?=some (.row (h.zs.length+j) k (L.map row))) (l:L.length=n) (F:T[j]?=some n) (m:B.set i (.row (h.zs.length+j) k ((L++M).map row))=B') (d:T.set j (L++M).length=T') :
  zj P o env (h.ext B T)=.ok (.fm (h.zh.length+i) (h.zs.length+j) k (L++M).length) (h.ext B' T'):=by
 subst l;refine zet v H hs q C f D A G r E ?_;simp only [rH,oS];by_cases h0:M.length=0
 ·have:M=[]:=lE h0;subst this;simp only [ko] at m d ⊢;simp only [lF,nv];have N:B.set i (.row (h.zs.length+j) k (L.map row))=B:=by
   refine lW λz=>?_
   grind
  have J:T.set j L.length=T:=by
   refine lW λz=>?_
   grind
  simp_all
 ·rw [lq h0,zW,hi];simp only;have I:(h.ext B T).zs[h.zs.length+j]?=some L.length:=by simp only [AH.ext];rw [pa (by omega),la];exact F
  rw [lc (by simp_all)];rw [wU];simp only [AH.ext,jg _ _ (n4 _ _),la,<- ki,ng] at m d ⊢;rw [m,d]
end
end Go.Vv
namespace Go.Vv
open Go Go.RowKit
variable {env' a5:List AV} {j m n i:Nat} {f:FuncId} {K:AV->AH->Prop} {v:AV} {B1:List q6} {T1:List Nat} {t e:TypeId} {x y:Operand} {kd:IntKind} {z:Int}

theorem eG.db {i k:Nat} {es:List (List AV)}:∀{xs bs:List AV},eG i k es xs bs->xs.all AV.one=true->bs.all AV.one=true
 | _,_,.refl _,h=>h
 | _,_,.cons x y,h=>by
  simp only [l8,tr] at h ⊢;refine ⟨?_,y.db h.2⟩;cases x with
  | same=>exact h.1
  | hit=>rfl
  | fA=>rfl
  | agg=>simp [AV.one] at h
  | fk=>simp [AV.one] at h
theorem uR {h:AH} {env:List AV} {B B':List q6} {T T':List Nat} {jb k:Nat} {es:List (List AV)} {cs cs':List AV} (F:B[j]?=some (.row (h.zs.length+m) k es)) (M:eG (h.zs.length+m) k es env env')
  (E:B[jb]?=some (.cells cs)) (d:eG (h.zs.length+m) k es cs cs') (O:(B.set j .dead).set jb (.cells cs')=B') (H:T.set m (es.length+1)=T'):dR env (h.ext B T) env' (h.ext B' T'):=λ_ _ w g vs r N=>by
 subst O H;have u:(h.ext B T).zh[h.zh.length+j]?=some (.row (h.zs.length+m) k es):=by
  simp only [AH.ext];rw [pa (by omega),la];exact F
 have b:(h.ext B T).zh[h.zh.length+jb]?=some (.cells cs):=by
  simp only [AH.ext];rw [pa (by omega),la];exact E
 have p:j ≠ jb:=by grind
 obtain ⟨g',a,A,I,C⟩:=r.freeze u;have e:({ (h.ext B T).put (h.zh.length+j) .dead with zs:=(h.ext B T).zs.set (h.zs.length+m) (es.length+1) }:AH)=h.ext (B.set j .dead) (T.set m (es.length+1)):=by
  simp only [AH.ext,AH.put,AH.mk.injEq]
  simp_all
 rw [e] at A;have q:h.zh.length+jb < g.σ.length:=by rw [r.fh];exact (tm.1 b).1
 obtain ⟨x,s⟩:∃x,g.σ[h.zh.length+jb]?=some x:=⟨_,s5 q⟩
 cases x with
 | none=>exact (r.row _ _ s b).elim
 | some c =>
  obtain ⟨_,_,⟨us,t,k1,k2⟩,_⟩:=r.gZ _ c _ s b;have G:(h.ext (B.set j .dead) (T.set m (es.length+1))).zh[h.zh.length+jb]?=some (.cells cs):=by
   simp only [AH.ext];rw [pa (by omega),la,lV p];exact E
  have l:=a.sig _ _ s;have D:=A.putObj (k':=.cells cs') l G (by simp) rfl rfl rfl rfl (λ_ _=>rfl) ⟨us,t,k1,VA.mk (d.sound a C k2.f4) (d.db k2.db)⟩;have J:(h.ext (B.set j .dead) (T.set m (es.length+1))).put (h.zh.length+jb) (.cells cs')=h.ext ((B.set j .dead).set jb (.cells cs')) (T.set m (es.length+1)):=by
   simp only [AH.ext,AH.put,AH.mk.injEq,kJ]
   simp_all
  rw [J] at D;exact ⟨g',a,D,M.sound a C N⟩
theorem qG {P : Program} {fn : Func} {c : Code} (hf : P.funcs[f]? = some fn) (hb : fn.body = some c) (hname : (fn.name == "runtime.NumGoroutine") = false) {args : List AV} {h : AH} {K : AV → AH → Prop} {env : List AV}
  (he:args++List.replicate (fn.ntmps - args.length) xo=env) (hw:wO P c (rB P fn h K) env h):Spec P f args h K:=zba hf hb hname (by simp_all)
theorem zi6 {h:AH} {B0 B L:List q6} {T0 T M:List Nat} {a:AV} (l:B0++L=B) (g:T0++M=T) (c:g6 v a) (d:a.low (h.ext B0 T0).zh.length (h.ext B0 T0).zs.length=true) (b:K a (h.ext B0 T0)):oR (h.ext B0 T0) K v (h.ext B T):=by
 subst l g;rw [<- xG];exact wa c d b
theorem zdS {h0 h:AH} (a:K v h):oR h0 K v h:=xZ (wk.refl _ _ _) a
theorem znV {h:AH} {k:Nat} (a:K (.fm h.zh.length h.zs.length k 0) (h.ext [.row h.zs.length k []] [0])):oR h K (.gW none k []) (h.ext [] []) :=
 xZ (qF (env:=[.gW none k []]) (d:=0) rfl rfl rfl rfl rfl rfl).wk a
theorem zm4 {P:Program} {h:AH} {B:List q6} {T:List Nat} {b:q6} (s:Spec P f a5 ((h.ext B1 T1).ext [b] [n]) (λa hh=>a=v/\hh=(h.ext B1 T1).ext [b] [n])) (d:B1++[b]=B) (c:T1++[n]=T) :
  Spec P f a5 (h.ext B T) (λa hh=>a=v/\hh=h.ext B T):=by
 subst d c;rw [xG] at s;exact s
def zor (h:AH) (bl tl k m:Nat) (R:List (List AV)) (rr:AV) (hh:AH):Prop:=rr=.fm (bl+1) (tl+1) k m/\∃n0,hh=h.ext [.dead,.row (tl+1) k R] [n0,m]
theorem zbz {P:Program} {a:Array Oper} {Q:List AV->AH->Prop} {o:Oper} {rest:List Oper} {env:List AV} {h:AH} {B B':List q6} {T:List Nat} {args:List AV} {b:q6} {k:Nat} {R:List (List AV)} (g:aG a o env=some true) (s:zj P o env (h.ext B T)=.call f args)
  (hs:Spec P f args ((h.ext B1 T1).ext [b] [n]) (zor (h.ext B1 T1) (h.zh.length+j) (h.zs.length+i) k m R)) (u:B1++[b]=B) (l:T1++[n]=T)
  (hd:tq o.dst env (.fm (h.zh.length+(j+1)) (h.zs.length+(i+1)) k m)=some env') (c:B1++[.dead,.row (h.zs.length+(i+1)) k R]=B') (w:∀d,zu P a Q rest env' (h.ext B' (T1++[d,m]))):zu P a Q (o::rest) env (h.ext B T):=by
 subst u l c;rw [xG] at hs;refine pj g s hs λr A ⟨q,d,p⟩=>?_;subst q;subst p;rw [xG];rw [yT (v:=.fm (h.zh.length+j+1) (h.zs.length+i+1) k m) (by omega)]
 grind
theorem oP {h0 h:AH} {α:Type} {row:α->List AV} {L:List α} {k:Nat} (u:K (.fm (h.zh.length+1) (h.zs.length+1) k L.length) (h.ext [.dead,.row (h.zs.length+1) k (L.map row)] [L.length+1,L.length])) :
  oR h0 K (.fm (h.zh.length+0) (h.zs.length+0) k L.length) (h.ext [.row (h.zs.length+0) k (L.map row)] [L.length]):=by
 refine xZ (dR.wk λB w0 w g vs r l=>?_) u;simp only [VL] at l;obtain ⟨v,s,rfl,p,rfl⟩:=l;have q:(h.ext [.row (h.zs.length+0) k (L.map row)] [L.length]).gZ (h.zh.length+0)=some (.row (h.zs.length+0) k (L.map row)):=by rw [zW];rfl
 have d:=p;simp only [V] at d;obtain ⟨a,c,rfl,_⟩:=d;have b:(L.map row).length=L.length:=oS ..;obtain ⟨g',A,C,E⟩:=r.shrink (n:=L.length) (a':=a) q (by omega) (.inl rfl) (by rw [b];exact p);refine ⟨g',A,?_,VL.cons ?_ (by simp [VL])⟩
 ·have e:(h.ext [.row (h.zs.length+0) k (L.map row)] [L.length]).shr (h.zh.length+0) (h.zs.length+0) k L.length (L.map row)=h.ext [.dead,.row (h.zs.length+1) k (L.map row)] [L.length+1,L.length]:=by
   simp only [AH.shr,AH.ext,AH.put,AH.new,b,AH.mk.injEq,ng,kG,jc]
   grind
  simp_all
 ·have F:(h.ext [q6.row (h.zs.length+0) k (L.map row)] [L.length]).zh.length=h.zh.length+1:=by simp [AH.ext]
  have D:(h.ext [q6.row (h.zs.length+0) k (L.map row)] [L.length]).zs.length=h.zs.length+1:=by simp [AH.ext]
  simp_all
def zqU (h:AH) (k m:Nat) (R:List (List AV)) (rr:AV) (hh:AH):Prop:=rr=.fm h.zh.length h.zs.length k m/\hh=h.ext [.row h.zs.length k R] [m]
theorem zpi {P:Program} {h:AH} {B B':List q6} {T T':List Nat} {k:Nat} {R:List (List AV)} (s:Spec P f a5 (h.ext B T) (zqU (h.ext B T) k m R)) (b:B.length=j) (hi:T.length=i) (g:B++[.row (h.zs.length+i) k R]=B') (d:T++[m]=T') :
  Spec P f a5 (h.ext B T) (λl hh=>l=.fm (h.zh.length+j) (h.zs.length+i) k m/\hh=h.ext B' T'):=by
 refine s.mono ?_
 rintro r p ⟨rfl,rfl⟩
 subst b hi g d;have c:(h.ext B T).zh.length=h.zh.length+B.length:=by simp [AH.ext]
 have a:(h.ext B T).zs.length=h.zs.length+T.length:=by simp [AH.ext]
 exact ⟨by rw [c,a],by rw [xG,a]⟩
theorem zhU {α:Type} {L:List α} {d:α} (h:L.length=n) (a:m<=n):(L.take m++List.replicate (n - m) d).length=n:=by
 simp;omega
section
variable {α:Type} {row:α->List AV} {L:List α} {k:Nat} {P:Program} {o:Oper} {env:List AV} {h:AH} {B B':List q6} {T T':List Nat}
theorem zgv {id q:Nat} (b:o.op=.slice t x (some y) none none) (a:El P t e k) (r:yu env x=some (.fm id q k n)) (c:yu env y=some (.int kd z)) (s:0<=z/\z<=n) :
  xE P o env h=some [(.el id q k n z.toNat,h)]:=by
 obtain ⟨l,d⟩:=zD r;obtain ⟨p,g⟩:=zD c;obtain ⟨i,hi,hs,_⟩:=a.i;simp only [xE,b,l,d,p,g,a.u,hi,hs,lI,nv]
 simp_all
theorem zma (a:∀x,(row x).length=k) {d:α} {t e:TypeId} {x:Operand} {c:Call} {i q n m:Nat} {z:List AV} (E:o.op=.call c) (M:c.callee=.builtin .clear) (I:c.args=#[x]) (p:c.argTypes=#[t]) (s:El P t e k) (D:yX P e=some z) (b:xH z=some (row d))
  (F:yu env x=some (.el (h.zh.length+i) q k n m)) (A:B[i]?=some (.row q k (L.map row))) (G:L.length=n) (O:m<=n) (J:B.set i (.row q k ((L.take m++List.replicate (n - m) d).map row))=B') :
  xE P o env (h.ext B T)=some [(.fk [],h.ext B' T)]:=by
 obtain ⟨C,w⟩:=zD F;obtain ⟨_,_,_,_,g,_⟩:=s.i;subst G J;have l:z.length=k:=by rw [<- tp b,a d]
 simp only [xE,E,M,I,p,C,w,nv,s.u,D,zW,A];rw [lc ⟨⟨trivial,trivial,by simp⟩,l,g⟩,b];simp only [AH.clr,wU,oS];have H:yI (L.map row).flatten (m * k) (aI (row d) L.length m)=((L.take m++List.replicate (L.length - m) d).map row).flatten:=by
  have r:(aI (row d) L.length m).length=(L.length - m) * k:=by simp [aI,a d]
  unfold yI;rw [zcD a,r,lZ (by rw [pt a,<- kc];exact l5 k (by omega))];simp [aI,List.map_replicate]
 rw [H];have N:=zev a (L.take m++List.replicate (L.length - m) d)
 simp_all
theorem zdU {c t':Nat} {M:List α} (w:o.op=.slice t x none (some y) none) (d:El P t e k) (E:yu env x=some (.fm (h.zh.length+i) (h.zs.length+j) k n)) (C:yu env y=some (.int kd z))
  (p:B[i]?=some (.row (h.zs.length+j) k (L.map row))) (F:L.length=n) (l:fL L 0 z=some M) (a:B.length=c) (b:T.length=t') (H:B.set i .dead++[.row (h.zs.length+t') k (M.map row)]=B') (r:T.set j (n+1)++[M.length]=T') :
  xE P o env (h.ext B T)=some [(.fm (h.zh.length+c) (h.zs.length+t') k M.length,h.ext B' T')]:=by
 obtain ⟨s,g⟩:=zD E;obtain ⟨D,q⟩:=zD C;obtain ⟨N,hi,hs,_⟩:=d.i;obtain ⟨⟨J,G,I⟩,rfl⟩:=zvz l;subst F a b H r;simp only [xE,w,s,g,D,q,d.u,hi,lI,nv,zW,p];rw [lc ⟨⟨trivial,trivial,by simp⟩,G,by omega⟩];have A:((L.take z.toNat).drop (0:Int).toNat).length=z.toNat:=by simp;omega
 have hd:(L.take z.toNat).drop (0:Int).toNat=L.take z.toNat:=rfl;rw [A,hd];simp only [AH.shr,AH.ext,AH.put,AH.new,ng,p3,List.cons.injEq,kT,AH.mk.injEq,kJ,oS,gt]
 simp_all
theorem wy {n:Int} {y:α} (h:zS L n=some y):0<=n/\n < L.length/\L[n.toNat]?=some y:=by
 unfold zS at h
 grind
theorem yZ {y:α} (h:zS L z=some y) (c:L.length=n):0<=z/\z < n:=by
 obtain ⟨b,a,_⟩:=wy h;omega
end
def mQ {α:Type} (xs:List α) (z:Int) (M:List α):Option (List α):=if (0<=z/\z<=xs.length)/\0 < M.length/\xs.length+M.length<=lim then some (xs.take z.toNat++(M++xs.drop z.toNat)) else none
end Go.Vv
