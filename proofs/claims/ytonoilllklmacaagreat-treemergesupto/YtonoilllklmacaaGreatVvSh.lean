/- Steps that nobody needs to tell: found by instances. -/
import Derived.Test.YtonoilllklmacaaGreatVvY
import Derived.Test.YtonoilllklmacaaGreatVvRw
set_option linter.all false
namespace Go.Vv
open Go
variable {fn:Func}
class GT (x:Operand) (env:List AV) (v:outParam AV):Prop where
 out:yu env x=some v
class ST (d:Option Tmp) (env:List AV) (v:AV) (env':outParam (List AV)):Prop where
 out:wL d env v=some env'
class TY (v:AV) (v':outParam AV):Prop where
 out:tyo v=some v'
section
variable {v a0 a1 a2 a3 a4 a5 a6 a7 a8 a9 a10 a11 a12 a13 a14 a15:AV} {r r':List AV} {n:Nat}
instance {env:List AV}:ST none env v env:=⟨rfl⟩
instance:GT (.tmp 0) (a0::r) a0:=⟨rfl⟩
instance:ST (some 0) (a0::r) v (v::r):=⟨rfl⟩
instance:GT (.tmp 1) (a0::a1::r) a1:=⟨rfl⟩
instance:ST (some 1) (a0::a1::r) v (a0::v::r):=⟨rfl⟩
instance:GT (.tmp 2) (a0::a1::a2::r) a2:=⟨rfl⟩
instance:ST (some 2) (a0::a1::a2::r) v (a0::a1::v::r):=⟨rfl⟩
instance:GT (.tmp 3) (a0::a1::a2::a3::r) a3:=⟨rfl⟩
instance:ST (some 3) (a0::a1::a2::a3::r) v (a0::a1::a2::v::r):=⟨rfl⟩
instance:GT (.tmp 4) (a0::a1::a2::a3::a4::r) a4:=⟨rfl⟩
instance:ST (some 4) (a0::a1::a2::a3::a4::r) v (a0::a1::a2::a3::v::r):=⟨rfl⟩
instance:GT (.tmp 5) (a0::a1::a2::a3::a4::a5::r) a5:=⟨rfl⟩
instance:ST (some 5) (a0::a1::a2::a3::a4::a5::r) v (a0::a1::a2::a3::a4::v::r):=⟨rfl⟩
instance:GT (.tmp 6) (a0::a1::a2::a3::a4::a5::a6::r) a6:=⟨rfl⟩
instance:ST (some 6) (a0::a1::a2::a3::a4::a5::a6::r) v (a0::a1::a2::a3::a4::a5::v::r):=⟨rfl⟩
instance:GT (.tmp 7) (a0::a1::a2::a3::a4::a5::a6::a7::r) a7:=⟨rfl⟩
instance:ST (some 7) (a0::a1::a2::a3::a4::a5::a6::a7::r) v (a0::a1::a2::a3::a4::a5::a6::v::r):=⟨rfl⟩
instance:GT (.tmp 8) (a0::a1::a2::a3::a4::a5::a6::a7::a8::r) a8:=⟨rfl⟩
instance:ST (some 8) (a0::a1::a2::a3::a4::a5::a6::a7::a8::r) v (a0::a1::a2::a3::a4::a5::a6::a7::v::r):=⟨rfl⟩
instance:GT (.tmp 9) (a0::a1::a2::a3::a4::a5::a6::a7::a8::a9::r) a9:=⟨rfl⟩
instance:ST (some 9) (a0::a1::a2::a3::a4::a5::a6::a7::a8::a9::r) v (a0::a1::a2::a3::a4::a5::a6::a7::a8::v::r):=⟨rfl⟩
instance:GT (.tmp 10) (a0::a1::a2::a3::a4::a5::a6::a7::a8::a9::a10::r) a10:=⟨rfl⟩
instance:ST (some 10) (a0::a1::a2::a3::a4::a5::a6::a7::a8::a9::a10::r) v (a0::a1::a2::a3::a4::a5::a6::a7::a8::a9::v::r):=⟨rfl⟩
instance:GT (.tmp 11) (a0::a1::a2::a3::a4::a5::a6::a7::a8::a9::a10::a11::r) a11:=⟨rfl⟩
instance:ST (some 11) (a0::a1::a2::a3::a4::a5::a6::a7::a8::a9::a10::a11::r) v (a0::a1::a2::a3::a4::a5::a6::a7::a8::a9::a10::v::r):=⟨rfl⟩
instance:GT (.tmp 12) (a0::a1::a2::a3::a4::a5::a6::a7::a8::a9::a10::a11::a12::r) a12:=⟨rfl⟩
instance:ST (some 12) (a0::a1::a2::a3::a4::a5::a6::a7::a8::a9::a10::a11::a12::r) v (a0::a1::a2::a3::a4::a5::a6::a7::a8::a9::a10::a11::v::r):=⟨rfl⟩
instance:GT (.tmp 13) (a0::a1::a2::a3::a4::a5::a6::a7::a8::a9::a10::a11::a12::a13::r) a13:=⟨rfl⟩
instance:ST (some 13) (a0::a1::a2::a3::a4::a5::a6::a7::a8::a9::a10::a11::a12::a13::r) v (a0::a1::a2::a3::a4::a5::a6::a7::a8::a9::a10::a11::a12::v::r):=⟨rfl⟩
instance:GT (.tmp 14) (a0::a1::a2::a3::a4::a5::a6::a7::a8::a9::a10::a11::a12::a13::a14::r) a14:=⟨rfl⟩
instance:ST (some 14) (a0::a1::a2::a3::a4::a5::a6::a7::a8::a9::a10::a11::a12::a13::a14::r) v (a0::a1::a2::a3::a4::a5::a6::a7::a8::a9::a10::a11::a12::a13::v::r):=⟨rfl⟩
instance:GT (.tmp 15) (a0::a1::a2::a3::a4::a5::a6::a7::a8::a9::a10::a11::a12::a13::a14::a15::r) a15:=⟨rfl⟩
instance:ST (some 15) (a0::a1::a2::a3::a4::a5::a6::a7::a8::a9::a10::a11::a12::a13::a14::a15::r) v (a0::a1::a2::a3::a4::a5::a6::a7::a8::a9::a10::a11::a12::a13::a14::v::r):=⟨rfl⟩
instance [g:GT (.tmp n) r v]:GT (.tmp (n+16)) (a0::a1::a2::a3::a4::a5::a6::a7::a8::a9::a10::a11::a12::a13::a14::a15::r) v:=⟨by have:=g.out;simpa [yu] using this⟩
instance [g:ST (some n) r v r']:ST (some (n+16)) (a0::a1::a2::a3::a4::a5::a6::a7::a8::a9::a10::a11::a12::a13::a14::a15::r) v (a0::a1::a2::a3::a4::a5::a6::a7::a8::a9::a10::a11::a12::a13::a14::a15::r'):=⟨by have:=g.out;simpa [wL] using this⟩
instance {env:List AV} {k:IntKind} {n:Int}:GT (.const (.int k n)) env (.int k n):=⟨rfl⟩
instance {env:List AV} {b:Bool}:GT (.const (.bool b)) env (.bool b):=⟨rfl⟩
class LenB (l:List UInt8) (k:Nat):Prop where
 out:l.length<=k
instance {k:Nat}:LenB [] k:=⟨tD _⟩
instance {a:UInt8} {l:List UInt8} {k:Nat} [i:LenB l k]:LenB (a::l) (k+1):=⟨pD i.out⟩
instance {env:List AV} {l:List UInt8} [i:LenB l 64]:GT (.const (.string ⟨List.toArray l⟩)) env (.str l):=⟨by
 have h:(ByteArray.mk (List.toArray l)).size<=maxLen:=uA (by simpa [ByteArray.size] using i.out) (by decide);simp [yu,cvo,h]⟩
instance {env:List AV}:GT (.const (.pointer none)) env .nilp:=⟨rfl⟩
instance {env:List AV}:GT (.const (.map none)) env .nilm:=⟨rfl⟩
instance {env:List AV}:GT (.const .nilFunc) env .nilf:=⟨rfl⟩
instance {env:List AV}:GT (.const .nilIface) env .nili:=⟨rfl⟩
instance {env:List AV}:GT (.const (.slice none 0 0)) env .nilsl:=⟨rfl⟩
instance {env:List AV} {g:Nat}:GT (.global g) env (.glob g):=⟨rfl⟩
instance {env:List AV} {f:FuncId}:GT (.func f) env (.fn (.func f) [] []):=⟨rfl⟩
end
instance {b}:TY (.bool b) (.bool b):=⟨rfl⟩
instance {k n}:TY (.int k n) (.int k n):=⟨rfl⟩
instance {s}:TY (.str s) (.str s):=⟨rfl⟩
instance {i o}:TY (.ptr i o) (.ptr i o):=⟨rfl⟩
instance {c}:TY (.fptr c) (.fptr c):=⟨rfl⟩
instance {k e}:TY (.sl k e) (.sl k e):=⟨rfl⟩
instance {q k e}:TY (.osl q k e) (.osl q k e):=⟨rfl⟩
instance {a b c d}:TY (.msl a b c d) (.msl a b c d):=⟨rfl⟩
instance {a b c d}:TY (.rsl a b c d) (.rsl a b c d):=⟨rfl⟩
instance {a b c d e}:TY (.rptr a b c d e) (.rptr a b c d e):=⟨rfl⟩
instance {a b c d e}:TY (.rsuf a b c d e) (.rsuf a b c d e):=⟨rfl⟩
instance {i}:TY (.map i) (.map i):=⟨rfl⟩
instance {f x y}:TY (.fn f x y) (.fn f x y):=⟨rfl⟩
instance {t v}:TY (.iface t v) (.iface t v):=⟨rfl⟩
instance {c}:TY (.agg c) (.agg c):=⟨rfl⟩
instance {c}:TY (.tup c) (.tup c):=⟨rfl⟩
instance {g}:TY (.glob g) (.glob g):=⟨rfl⟩
instance {i}:TY (.yld i) (.yld i):=⟨rfl⟩
instance:TY .nilp .nilp:=⟨rfl⟩
instance:TY .nilm .nilm:=⟨rfl⟩
instance:TY .nilf .nilf:=⟨rfl⟩
instance:TY .nili .nili:=⟨rfl⟩
instance {f x y}:TY (AV.zcl (.fn f x y)) (.fn f x y):=⟨rfl⟩
instance {v:AV} {b:Bool}:TY (withOk true v b) (.tup [v,.bool b]):=⟨by rfl⟩
section
variable {α:Type}
class NTH (n:Nat) (l:List α) (v:outParam α):Prop where
 out:l[n]?=some v
instance {a:α} {l:List α}:NTH 0 (a::l) a:=⟨rfl⟩
instance {n:Nat} {a v:α} {l:List α} [i:NTH n l v]:NTH (n+1) (a::l) v:=⟨by simpa using i.out⟩
class DROP (n:Nat) (l:List α) (r:outParam (List α)):Prop where
 out:l.drop n=r
 le:n<=l.length
instance {l:List α}:DROP 0 l l:=⟨rfl,tD _⟩
instance {n:Nat} {a:α} {l r:List α} [i:DROP n l r]:DROP (n+1) (a::l) r:=⟨by simpa using i.out,pD i.le⟩
class TAKE (n:Nat) (l:List α) (r:outParam (List α)):Prop where
 out:l.take n=r/\n<=l.length
instance {l:List α}:TAKE 0 l []:=⟨by simp⟩
instance {n:Nat} {a:α} {l r:List α} [i:TAKE n l r]:TAKE (n+1) (a::l) (a::r):=⟨by have:=i.out;simp [this.1,this.2]⟩
end
class SPL (n:Nat) (vs l:List AV) (r:outParam (List AV)):Prop where
 out:y8 l n vs=r/\n+vs.length<=l.length
class APP (l r:List Blk) (s:outParam (List Blk)):Prop where
 out:l++r=s
instance {r:List Blk}:APP [] r r:=⟨rfl⟩
instance {a:Blk} {l r s:List Blk} [i:APP l r s]:APP (a::l) r (a::s):=⟨by rw [<- i.out];rfl⟩
class SETL (l:List Blk) (n:Nat) (b:Blk) (s:outParam (List Blk)):Prop where
 out:l.set n b=s
instance {a b:Blk} {l:List Blk}:SETL (a::l) 0 b (b::l):=⟨rfl⟩
instance {a b:Blk} {l s:List Blk} {n:Nat} [i:SETL l n b s]:SETL (a::l) (n+1) b (a::s):=⟨by rw [<- i.out];rfl⟩
class NRM (l:List Blk) (s:outParam (List Blk)):Prop where
 out:l=s
instance:NRM [] []:=⟨rfl⟩
instance {a:Blk} {l:List Blk}:NRM (a::l) (a::l):=⟨rfl⟩
instance {l r o s:List Blk} [i:NRM l o] [j:APP o r s]:NRM (l++r) s:=⟨by rw [i.out,j.out]⟩
instance {l o s:List Blk} {n:Nat} {b:Blk} [i:NRM l o] [j:SETL o n b s]:NRM (l.set n b) s:=⟨by rw [i.out,j.out]⟩
class FA (off:Nat) (a:AV) (v:outParam AV):Prop where
 out:qA off a=some v
instance {off i:Nat}:FA off (.ptr i 0) (.ptr i off):=⟨by simp [qA]⟩
instance (priority:=low) {off i o:Nat}:FA off (.ptr i o) (.ptr i (o+off)):=⟨rfl⟩
instance {off:Nat} {cs r:List AV} [i:DROP off cs r]:FA off (.fptr cs) (.fptr r):=⟨by simp [qA,i.out]⟩
class BI (op:BinOp) (t:TypeId) (x y:AV) (v:outParam AV):Prop where
 out:∀P,yV P op t x y=some v
section
variable {t:TypeId} {k:IntKind} {a b:Int} {x y:List UInt8}
instance:BI .add t (.int k a) (.int k b) (.int k (k.wrap (a+b))):=⟨λP=>by simp [yV,xi]⟩
instance:BI .sub t (.int k a) (.int k b) (.int k (k.wrap (a - b))):=⟨λP=>by simp [yV,xi]⟩
instance:BI .mul t (.int k a) (.int k b) (.int k (k.wrap (a * b))):=⟨λP=>by simp [yV,xi]⟩
instance:BI .and t (.int k a) (.int k b) (.int k (k.wrap ((BitVec.ofInt k.bits a &&& BitVec.ofInt k.bits b).toNat))):=⟨λP=>by simp [yV,xi]⟩
instance:BI .or t (.int k a) (.int k b) (.int k (k.wrap ((BitVec.ofInt k.bits a ||| BitVec.ofInt k.bits b).toNat))):=⟨λP=>by simp [yV,xi]⟩
instance:BI .andNot t (.int k a) (.int k b) (.int k (k.wrap ((BitVec.ofInt k.bits a &&& ~~~(BitVec.ofInt k.bits b)).toNat))):=⟨λP=>by simp [yV,xi]⟩
instance:BI .xor t (.int k a) (.int k b) (.int k (k.wrap ((BitVec.ofInt k.bits a ^^^ BitVec.ofInt k.bits b).toNat))):=⟨λP=>by simp [yV,xi]⟩
instance:BI .eql t (.int k a) (.int k b) (.bool (a==b)):=⟨λP=>by simp [yV,xi]⟩
instance:BI .neq t (.int k a) (.int k b) (.bool (a != b)):=⟨λP=>by simp [yV,xi]⟩
instance:BI .lss t (.int k a) (.int k b) (.bool (decide (a < b))):=⟨λP=>by simp [yV,xi]⟩
instance:BI .leq t (.int k a) (.int k b) (.bool (decide (a<=b))):=⟨λP=>by simp [yV,xi]⟩
instance:BI .gtr t (.int k a) (.int k b) (.bool (decide (a > b))):=⟨λP=>by simp [yV,xi]⟩
instance:BI .geq t (.int k a) (.int k b) (.bool (decide (a >= b))):=⟨λP=>by simp [yV,xi]⟩
instance:BI .eql t (.str x) (.str y) (.bool (x==y)):=⟨λP=>by rfl⟩
instance:BI .neq t (.str x) (.str y) (.bool !(x==y)):=⟨λP=>by rfl⟩
instance:BI .lss t (.str x) (.str y) (.bool (Op.bytesLess x y)):=⟨λP=>by rfl⟩
instance:BI .leq t (.str x) (.str y) (.bool (Op.bytesLess x y || x==y)):=⟨λP=>by rfl⟩
instance:BI .gtr t (.str x) (.str y) (.bool !(Op.bytesLess x y || x==y)):=⟨λP=>by rfl⟩
instance:BI .geq t (.str x) (.str y) (.bool !(Op.bytesLess x y)):=⟨λP=>by rfl⟩
instance {k2:IntKind}:BI .shr t (.int k a) (.int k2 1) (.int k (a.fdiv (2 ^ min (1:Int).toNat k.bits))):=⟨λP=>by simp [yV,xi]⟩
instance {k2:IntKind}:BI .shr t (.int k a) (.int k2 2) (.int k (a.fdiv (2 ^ min (2:Int).toNat k.bits))):=⟨λP=>by simp [yV,xi]⟩
instance {k2:IntKind}:BI .shr t (.int k a) (.int k2 3) (.int k (a.fdiv (2 ^ min (3:Int).toNat k.bits))):=⟨λP=>by simp [yV,xi]⟩
instance {k2:IntKind}:BI .shr t (.int k a) (.int k2 4) (.int k (a.fdiv (2 ^ min (4:Int).toNat k.bits))):=⟨λP=>by simp [yV,xi]⟩
instance {k2:IntKind}:BI .shr t (.int k a) (.int k2 5) (.int k (a.fdiv (2 ^ min (5:Int).toNat k.bits))):=⟨λP=>by simp [yV,xi]⟩
instance {k2:IntKind}:BI .shr t (.int k a) (.int k2 6) (.int k (a.fdiv (2 ^ min (6:Int).toNat k.bits))):=⟨λP=>by simp [yV,xi]⟩
instance {k2:IntKind}:BI .shr t (.int k a) (.int k2 7) (.int k (a.fdiv (2 ^ min (7:Int).toNat k.bits))):=⟨λP=>by simp [yV,xi]⟩
instance {k2:IntKind}:BI .shr t (.int k a) (.int k2 8) (.int k (a.fdiv (2 ^ min (8:Int).toNat k.bits))):=⟨λP=>by simp [yV,xi]⟩
instance {k2:IntKind}:BI .shr t (.int k a) (.int k2 16) (.int k (a.fdiv (2 ^ min (16:Int).toNat k.bits))):=⟨λP=>by simp [yV,xi]⟩
instance {k2:IntKind}:BI .shr t (.int k a) (.int k2 24) (.int k (a.fdiv (2 ^ min (24:Int).toNat k.bits))):=⟨λP=>by simp [yV,xi]⟩
instance {k2:IntKind}:BI .shr t (.int k a) (.int k2 32) (.int k (a.fdiv (2 ^ min (32:Int).toNat k.bits))):=⟨λP=>by simp [yV,xi]⟩
instance {k2:IntKind}:BI .shr t (.int k a) (.int k2 40) (.int k (a.fdiv (2 ^ min (40:Int).toNat k.bits))):=⟨λP=>by simp [yV,xi]⟩
instance {k2:IntKind}:BI .shr t (.int k a) (.int k2 48) (.int k (a.fdiv (2 ^ min (48:Int).toNat k.bits))):=⟨λP=>by simp [yV,xi]⟩
instance {k2:IntKind}:BI .shr t (.int k a) (.int k2 56) (.int k (a.fdiv (2 ^ min (56:Int).toNat k.bits))):=⟨λP=>by simp [yV,xi]⟩
instance {k2:IntKind}:BI .shr t (.int k a) (.int k2 63) (.int k (a.fdiv (2 ^ min (63:Int).toNat k.bits))):=⟨λP=>by simp [yV,xi]⟩
instance {k2:IntKind}:BI .shl t (.int k a) (.int k2 1) (.int k (k.wrap (a * 2 ^ min (1:Int).toNat k.bits))):=⟨λP=>by simp [yV,xi]⟩
instance {k2:IntKind}:BI .shl t (.int k a) (.int k2 2) (.int k (k.wrap (a * 2 ^ min (2:Int).toNat k.bits))):=⟨λP=>by simp [yV,xi]⟩
instance {k2:IntKind}:BI .shl t (.int k a) (.int k2 3) (.int k (k.wrap (a * 2 ^ min (3:Int).toNat k.bits))):=⟨λP=>by simp [yV,xi]⟩
instance {k2:IntKind}:BI .shl t (.int k a) (.int k2 4) (.int k (k.wrap (a * 2 ^ min (4:Int).toNat k.bits))):=⟨λP=>by simp [yV,xi]⟩
instance {k2:IntKind}:BI .shl t (.int k a) (.int k2 7) (.int k (k.wrap (a * 2 ^ min (7:Int).toNat k.bits))):=⟨λP=>by simp [yV,xi]⟩
instance {k2:IntKind}:BI .shl t (.int k a) (.int k2 8) (.int k (k.wrap (a * 2 ^ min (8:Int).toNat k.bits))):=⟨λP=>by simp [yV,xi]⟩
instance {k2:IntKind}:BI .shl t (.int k a) (.int k2 16) (.int k (k.wrap (a * 2 ^ min (16:Int).toNat k.bits))):=⟨λP=>by simp [yV,xi]⟩
instance {k2:IntKind}:BI .shl t (.int k a) (.int k2 32) (.int k (k.wrap (a * 2 ^ min (32:Int).toNat k.bits))):=⟨λP=>by simp [yV,xi]⟩
instance:BI .quo t (.int k a) (.int k 2) (.int k (k.wrap (a.tdiv 2))):=⟨λP=>by simp [yV,xi]⟩
instance:BI .rem t (.int k a) (.int k 2) (.int k (a.tmod 2)):=⟨λP=>by simp [yV,xi]⟩
instance:BI .quo t (.int k a) (.int k 3) (.int k (k.wrap (a.tdiv 3))):=⟨λP=>by simp [yV,xi]⟩
instance:BI .rem t (.int k a) (.int k 3) (.int k (a.tmod 3)):=⟨λP=>by simp [yV,xi]⟩
instance:BI .quo t (.int k a) (.int k 4) (.int k (k.wrap (a.tdiv 4))):=⟨λP=>by simp [yV,xi]⟩
instance:BI .rem t (.int k a) (.int k 4) (.int k (a.tmod 4)):=⟨λP=>by simp [yV,xi]⟩
instance:BI .quo t (.int k a) (.int k 7) (.int k (k.wrap (a.tdiv 7))):=⟨λP=>by simp [yV,xi]⟩
instance:BI .rem t (.int k a) (.int k 7) (.int k (a.tmod 7)):=⟨λP=>by simp [yV,xi]⟩
instance:BI .quo t (.int k a) (.int k 8) (.int k (k.wrap (a.tdiv 8))):=⟨λP=>by simp [yV,xi]⟩
instance:BI .rem t (.int k a) (.int k 8) (.int k (a.tmod 8)):=⟨λP=>by simp [yV,xi]⟩
instance:BI .quo t (.int k a) (.int k 10) (.int k (k.wrap (a.tdiv 10))):=⟨λP=>by simp [yV,xi]⟩
instance:BI .rem t (.int k a) (.int k 10) (.int k (a.tmod 10)):=⟨λP=>by simp [yV,xi]⟩
instance:BI .quo t (.int k a) (.int k 16) (.int k (k.wrap (a.tdiv 16))):=⟨λP=>by simp [yV,xi]⟩
instance:BI .rem t (.int k a) (.int k 16) (.int k (a.tmod 16)):=⟨λP=>by simp [yV,xi]⟩
instance:BI .quo t (.int k a) (.int k 32) (.int k (k.wrap (a.tdiv 32))):=⟨λP=>by simp [yV,xi]⟩
instance:BI .rem t (.int k a) (.int k 32) (.int k (a.tmod 32)):=⟨λP=>by simp [yV,xi]⟩
instance:BI .quo t (.int k a) (.int k 64) (.int k (k.wrap (a.tdiv 64))):=⟨λP=>by simp [yV,xi]⟩
instance:BI .rem t (.int k a) (.int k 64) (.int k (a.tmod 64)):=⟨λP=>by simp [yV,xi]⟩
instance:BI .quo t (.int k a) (.int k 100) (.int k (k.wrap (a.tdiv 100))):=⟨λP=>by simp [yV,xi]⟩
instance:BI .rem t (.int k a) (.int k 100) (.int k (a.tmod 100)):=⟨λP=>by simp [yV,xi]⟩
instance:BI .quo t (.int k a) (.int k 128) (.int k (k.wrap (a.tdiv 128))):=⟨λP=>by simp [yV,xi]⟩
instance:BI .rem t (.int k a) (.int k 128) (.int k (a.tmod 128)):=⟨λP=>by simp [yV,xi]⟩
instance:BI .quo t (.int k a) (.int k 256) (.int k (k.wrap (a.tdiv 256))):=⟨λP=>by simp [yV,xi]⟩
instance:BI .rem t (.int k a) (.int k 256) (.int k (a.tmod 256)):=⟨λP=>by simp [yV,xi]⟩
end
class UN (op:UnOp) (x:AV) (v:outParam AV):Prop where
 out:aUn op x=some v
instance {b:Bool}:UN .not (.bool b) (.bool !b):=⟨rfl⟩
instance {k:IntKind} {n:Int}:UN .neg (.int k n) (.int k (k.wrap (0 - n))):=⟨rfl⟩
class NA (d:TypeDesc):Prop where
 out:yA d=false
instance {k:IntKind}:NA (.int k):=⟨rfl⟩
instance:NA .string:=⟨rfl⟩
instance:NA .bool:=⟨rfl⟩
instance {e:TypeId}:NA (.slice e):=⟨rfl⟩
instance {e:TypeId}:NA (.pointer e):=⟨rfl⟩
instance {a b:TypeId}:NA (.map a b):=⟨rfl⟩
class TA (P:Program) (t:TypeId) (k:outParam Nat):Prop where
 out:∃d,Ty P t d k/\yA d=true
class SUC (k:Nat):Prop where
 out:∃j,k=j+1
instance {n:Nat}:SUC (n+1):=⟨⟨n,rfl⟩⟩
class IMP (b b':Bool):Prop where
 out:b=true->b'=true
instance {b:Bool}:IMP b b:=⟨id⟩
instance {a b c:Bool} [i:IMP a b]:IMP (a&&c) b:=⟨λh=>i.out (and_l h)⟩
class GGX (b:Bool) (w:AV) (v:outParam AV):Prop where
 out:b=true->w=v
instance {b o:Bool} {v:AV} [i:IMP b o]:GGX b (gv o v) v:=⟨λs=>by rw [i.out s,gv_true]⟩
instance (priority:=low) {b:Bool} {w:AV}:GGX b w w:=⟨λ_=>rfl⟩
class GG (x:Operand) (env:List AV) (b:Bool) (v:outParam AV):Prop where
 out:b=true->yu env x=some v
instance {x:Operand} {env:List AV} {b:Bool} {w v:AV} [i:GT x env w] [j:GGX b w v]:GG x env b v:=⟨λo=>by rw [<- j.out o];exact i.out⟩
class TYP (P:Program) (t:TypeId) (v:AV) (v':outParam AV):Prop where
 out:tyfix P t v=v'
instance {P:Program} {t:TypeId} {v v':AV} [i:TY v v']:TYP P t v v':=⟨za i.out⟩
instance {P:Program} {t e:TypeId} {k:Nat} [i:El P t e k]:TYP P t .nilsl (.osl none k []):=⟨qW i⟩
class IMT (b t w b':Bool):Prop where
 out:b=true->t=w->b'=true
instance {b t w:Bool}:IMT b t w (t==w):=⟨λ_ h=>by simp_all⟩
instance {b o t w:Bool} [i:IMP b o]:IMT b t w (o&&(t==w)):=⟨λh e=>by rw [i.out h,e];cases w <;> rfl⟩
class PK' (b t:Bool) (x y:AV) (v:outParam AV):Prop where
 out:b=true->(if t then x else y)=v
section
variable {b t q r c c':Bool} {k:IntKind} {m n:Int}
instance:PK' b t (.bool q) (.bool r) (.bool (if t then q else r)):=⟨λ_=>pick_bb⟩
instance [i:IMT b t true c]:PK' b t (gv c (.bool q)) (.bool r) (.bool (if t then q else r)):=⟨λh=>pick_g1 (i.out h)⟩
instance [i:IMT b t false c]:PK' b t (.bool r) (gv c (.bool q)) (.bool (if t then r else q)):=⟨λh=>pick_g2 (i.out h)⟩
instance [i:IMT b t true c] [j:IMT b t false c']:PK' b t (gv c (.bool q)) (gv c' (.bool r)) (.bool (if t then q else r)):=⟨λh=>pick_g3 (i.out h) (j.out h)⟩
instance (priority:=high) [i:IMT b t true c]:PK' b t (gv c (.bool q)) (.bool false) (.bool (t&&q)):=⟨λh=>pick_and (i.out h)⟩
instance (priority:=high) [i:IMT b t false c]:PK' b t (.bool true) (gv c (.bool q)) (.bool (t || q)):=⟨λh=>wD (i.out h)⟩
instance:PK' b t (.int k m) (.int k n) (.int k (if t then m else n)):=⟨λ_=>pick_ii⟩
instance [i:IMT b t true c]:PK' b t (gv c (.int k m)) (.int k n) (.int k (if t then m else n)):=⟨λh=>pick_ig1 (i.out h)⟩
instance [i:IMT b t false c]:PK' b t (.int k n) (gv c (.int k m)) (.int k (if t then n else m)):=⟨λh=>pick_ig2 (i.out h)⟩
end
class ONE (P:Program) (o:Oper) (env:List AV) (h:AH) (q:Bool) (v:outParam AV):Prop where
 out:q=true->zF P o env h=.ok v h
section
variable {P:Program} {env:List AV} {h h0:AH} {r':List Blk} {d:Option Tmp} {t t' u:TypeId} {p:String} {a:Array Edge} {x y z:Operand} {v v' w w' b:AV} {id i j n k k' off f:Nat} {cs cs' r:List AV} {L L':List Blk} {M:List Nat} {td:TypeDesc} {gd:Option (Nat×Bool)} {q tt:Bool}
instance [o:GG x env q v] [s:TYP P t v v']:ONE P ⟨d,.move x,t,p,a,gd⟩ env h q v':=⟨λC=>zo rfl (o.out C) s.out⟩
instance [o:GG x env q v] [s:TYP P t v v']:ONE P ⟨d,.assign x,t,p,a,gd⟩ env h q v':=⟨λC=>zA rfl (o.out C) s.out⟩
instance [s:GG x env q (.bool tt)] [E:GT y env v] [C:GT z env w] [D:PK' q tt v w b]:ONE P ⟨d,.pick x y z,t,p,a,gd⟩ env h q b:=⟨λo=>wy rfl (s.out o) E.out C.out (D.out o)⟩
instance [o:Fo P t f off u k] [s:SUC k] [C:GG x env q v] [D:FA off v v']:ONE P ⟨d,.fieldAddr t x f,t',p,a,gd⟩ env h q v':=⟨λE=>by
 obtain ⟨j,rfl⟩:=s.out;exact zw rfl o (C.out E) D.out⟩
instance {op:BinOp} [s:GG x env q v] [D:GG y env q v'] [C:BI op t v v' w]:ONE P ⟨d,.binOp op t x y u,t',p,a,gd⟩ env h q w:=⟨λo=>yH rfl (s.out o) (D.out o) (C.out P)⟩
instance {op:UnOp} [o:GG x env q v] [s:UN op v w]:ONE P ⟨d,.unOp op t x,t',p,a,gd⟩ env h q w:=⟨λC=>s_un rfl (o.out C) s.out⟩
instance [o:GG x env q (.tup cs)] [s:NTH n cs v] [C:TYP P t v v']:ONE P ⟨d,.extract x n,t,p,a,gd⟩ env h q v':=⟨λD=>yj rfl (o.out D) s.out C.out⟩
instance [o:GG x env q (.fptr cs)]:ONE P ⟨d,.nilCheck x,t,p,a,gd⟩ env h q (.fptr cs):=⟨λs=>s_nilCheck rfl (o.out s) rfl⟩
instance [o:GG x env q (.ptr i j)]:ONE P ⟨d,.nilCheck x,t,p,a,gd⟩ env h q (.ptr i j):=⟨λs=>s_nilCheck rfl (o.out s) rfl⟩
instance [o:Ty P t td k] [E:NA td] [s:GG x env q (.ptr (h0.blks.length+j) off)] [J:NRM L L'] [H:NTH j L' (.cells cs)] [C:NTH off cs v] [D:TYP P t v v']:ONE P ⟨d,.load t x,t',p,a,gd⟩ env (h0.ext L M) q v':=⟨λI=>zH rfl o (s.out I) (by rw [J.out];exact H.out) (by rw [E.out];exact zI C.out) D.out⟩
instance [o:Ty P t td k] [E:NA td] [s:GG x env q (.fptr cs)] [D:NTH 0 cs v] [C:TYP P t v v']:ONE P ⟨d,.load t x,t',p,a,gd⟩ env h q v':=⟨λH=>f_load rfl o (s.out H) (by rw [E.out];exact zI D.out) C.out⟩
instance [D:TA P t k] [E:GG x env q (.ptr (h0.blks.length+j) off)] [R:NRM L L'] [J:NTH j L' (.cells cs)] [o:DROP off cs cs'] [H:TAKE k cs' r]:ONE P ⟨d,.load t x,t',p,a,gd⟩ env (h0.ext L M) q (.agg r):=⟨λK=>by
 obtain ⟨td,I,O⟩:=D.out;have C:=o.out;have s:=H.out;refine zH rfl I (E.out K) (by rw [R.out];exact J.out) ?_ (za (v:=.agg r) rfl);rw [O];refine ldC_ag (sE ?_) (by rw [C,s.1]);have:=s.2;rw [<- C,rg] at this;have:=o.le;omega⟩
instance [o:TA P t k] [s:GG x env q (.fptr cs)] [C:TAKE k cs r]:ONE P ⟨d,.load t x,t',p,a,gd⟩ env h q (.agg r):=⟨λE=>by
 obtain ⟨td,D,H⟩:=o.out;have I:=C.out;refine f_load rfl D (s.out E) ?_ (za (v:=.agg r) rfl);rw [H];exact ldC_ag (sE (by omega)) (by simp_all)⟩
class CEL (v:AV) (cs:outParam (List AV)):Prop where
 out:v.cells?=some cs
instance:CEL (.agg cs) cs:=⟨rfl⟩
class LENB (L:List Blk) (n:outParam Nat):Prop where
 out:L.length=n
instance:LENB [] 0:=⟨rfl⟩
instance {b0:Blk}:LENB [b0] 1:=⟨rfl⟩
instance {b0 o:Blk}:LENB [b0,o] 2:=⟨rfl⟩
instance {b0 s o:Blk}:LENB [b0,s,o] 3:=⟨rfl⟩
instance {b0 C s o:Blk}:LENB [b0,C,s,o] 4:=⟨rfl⟩
instance {b0 o C D s:Blk}:LENB [b0,o,C,D,s] 5:=⟨rfl⟩
instance {b0 o D E C s:Blk}:LENB [b0,o,D,E,C,s] 6:=⟨rfl⟩
instance {b0 o E H D s C:Blk}:LENB [b0,o,E,H,D,s,C] 7:=⟨rfl⟩
instance {b0 s H I E C D o:Blk}:LENB [b0,s,H,I,E,C,D,o] 8:=⟨rfl⟩
instance {b0 s I J H C E o D:Blk}:LENB [b0,s,I,J,H,C,E,o,D] 9:=⟨rfl⟩
instance {b0 s I J H C E o D K:Blk}:LENB [b0,s,I,J,H,C,E,o,D,K] 10:=⟨rfl⟩
instance {b0 C J K I D H s E O o:Blk}:LENB [b0,C,J,K,I,D,H,s,E,O,o] 11:=⟨rfl⟩
instance {b0 D K O J E I C H R s o:Blk}:LENB [b0,D,K,O,J,E,I,C,H,R,s,o] 12:=⟨rfl⟩
instance {b0 E O R K H J D I S C s o:Blk}:LENB [b0,E,O,R,K,H,J,D,I,S,C,s,o] 13:=⟨rfl⟩
instance {b0 H R S O I K E J T C s o D:Blk}:LENB [b0,H,R,S,O,I,K,E,J,T,C,s,o,D] 14:=⟨rfl⟩
instance {b0 I S T R J O H K U D C s E o:Blk}:LENB [b0,I,S,T,R,J,O,H,K,U,D,C,s,E,o] 15:=⟨rfl⟩
instance {b0 J T U S K R I O V E D C H o s:Blk}:LENB [b0,J,T,U,S,K,R,I,O,V,E,D,C,H,o,s] 16:=⟨rfl⟩
instance {b0 K U V T O S J R W H E D I s C o:Blk}:LENB [b0,K,U,V,T,O,S,J,R,W,H,E,D,I,s,C,o] 17:=⟨rfl⟩
instance {b0 O V W U R T K S X I H E J s D o C:Blk}:LENB [b0,O,V,W,U,R,T,K,S,X,I,H,E,J,s,D,o,C] 18:=⟨rfl⟩
instance {b0 O X T W R S V Y U E D K H s J o I C:Blk}:LENB [b0,O,X,T,W,R,S,V,Y,U,E,D,K,H,s,J,o,I,C] 19:=⟨rfl⟩
instance {b}:CEL (.bool b) [.bool b]:=⟨rfl⟩
instance {k n}:CEL (.int k n) [.int k n]:=⟨rfl⟩
instance {s}:CEL (.str s) [.str s]:=⟨rfl⟩
instance {i o}:CEL (.ptr i o) [.ptr i o]:=⟨rfl⟩
instance {c}:CEL (.fptr c) [.fptr c]:=⟨rfl⟩
instance {k e}:CEL (.sl k e) [.sl k e]:=⟨rfl⟩
instance {q k e}:CEL (.osl q k e) [.osl q k e]:=⟨rfl⟩
instance {a b c d}:CEL (.msl a b c d) [.msl a b c d]:=⟨rfl⟩
instance {a b c d}:CEL (.rsl a b c d) [.rsl a b c d]:=⟨rfl⟩
instance {a b c d e}:CEL (.rptr a b c d e) [.rptr a b c d e]:=⟨rfl⟩
instance {a b c d e}:CEL (.rsuf a b c d e) [.rsuf a b c d e]:=⟨rfl⟩
instance {i}:CEL (.map i) [.map i]:=⟨rfl⟩
instance {f x y}:CEL (.fn f x y) [.fn f x y]:=⟨rfl⟩
instance {t v}:CEL (.iface t v) [.iface t v]:=⟨rfl⟩
instance {g}:CEL (.glob g) [.glob g]:=⟨rfl⟩
instance {i}:CEL (.yld i) [.yld i]:=⟨rfl⟩
class LENV (cs:List AV) (n:Nat):Prop where
 out:cs.length=n
instance:LENV [] 0:=⟨rfl⟩
instance [i:LENV cs n]:LENV (v::cs) (n+1):=⟨by simp [i.out]⟩
class SAME (cs r:List AV):Prop where
 out:cs.length=r.length
instance:SAME [] []:=⟨rfl⟩
instance [i:SAME cs r]:SAME (v::cs) (w::r):=⟨by simp [i.out]⟩
instance (priority:=high) [i:SAME cs r]:SPL 0 cs r cs:=⟨by simp [y8,i.out]⟩
instance:SPL 0 [] r r:=⟨by simp [y8]⟩
instance [i:SPL 0 cs r cs']:SPL 0 (v::cs) (w::r) (v::cs'):=⟨by have:=i.out;simp only [y8,pQ,uI,tx] at this ⊢;simp only [ux,r7,tP,this.1,pE];omega⟩
instance [i:SPL n cs r cs']:SPL (n+1) cs (w::r) (w::cs'):=⟨by have:=i.out;simp only [y8] at this ⊢;rw [show n+1+cs.length=n+cs.length+1 by omega];simp only [sK,r7,tP,this.1,ux,pE];omega⟩
class ZE (P:Program) (t:TypeId) (cs:outParam (List AV)):Prop where
 out:xl P t=some cs
class EFF (P:Program) (o:Oper) (env:List AV) (h:AH) (v:outParam AV) (h':outParam AH):Prop where
 out:zF P o env h=.ok v h'
instance [o:ZE P t cs] [C:NRM L L'] [D:LENB L' n] [s:APP L' [.cells cs] r']:EFF P ⟨d,.alloc t,t',p,a,gd⟩ env (h0.ext L M) (.ptr (h0.blks.length+n) 0) (h0.ext r' M):=⟨by rw [C.out,<- s.out];exact yL rfl o.out D.out⟩
instance [o:GT x env v] [C:TYP P t v v'] [D:CEL v' cs] [H:NRM L L'] [s:LENB L' n] [E:APP L' [.cells cs] r']:EFF P ⟨d,.box t x,t',p,a,gd⟩ env (h0.ext L M) (.ptr (h0.blks.length+n) 0) (h0.ext r' M):=⟨by rw [H.out,<- E.out];exact vg rfl o.out C.out D.out s.out⟩
instance [C:Ty P t td k] [D:GT x env (.ptr (h0.blks.length+j) off)] [J:GT y env v] [E:TYP P t v v'] [H:CEL v' cs] [o:LENV cs k] [K:NRM L L'] [I:NTH j L' (.cells r)] [s:SPL off cs r cs'] [i9:SETL L' j (.cells cs') r'] :
  EFF P ⟨d,.store t x y,t',p,a,gd⟩ env (h0.ext L M) aundef (h0.ext r' M):=⟨by
 rw [K.out,<- i9.out];exact zG rfl C D.out J.out E.out H.out o.out I.out (sE (by have:=s.out.2;rw [o.out] at this;exact this)) s.out.1⟩
instance [C:TA P t k] [D:GT x env (.ptr (h0.blks.length+j) off)] [I:GT y env (.agg cs)] [o:LENV cs k] [J:NRM L L'] [E:NTH j L' (.cells r)] [s:SPL off cs r cs'] [i9:SETL L' j (.cells cs') r'] :
  EFF P ⟨d,.store t x y,t',p,a,gd⟩ env (h0.ext L M) aundef (h0.ext r' M):=⟨by
 obtain ⟨td,H,K⟩:=C.out;rw [J.out,<- i9.out];exact zG rfl H D.out I.out (za (v:=.agg cs) rfl) rfl o.out E.out (sE (by have:=s.out.2;rw [o.out] at this;exact this)) s.out.1⟩
end
class DST (l:List Oper) (j:Nat) (d:outParam Nat):Prop where
 out:(l[j]?).bind (·.dst)=some d
instance {d:Nat} {o:Op} {t:TypeId} {p:String} {a:Array Edge} {g:Option (Nat×Bool)} {l:List Oper}:DST (⟨some d,o,t,p,a,g⟩::l) 0 d:=⟨rfl⟩
instance {o:Oper} {l:List Oper} {j d:Nat} [i:DST l j d]:DST (o::l) (j+1) d:=⟨by simpa using i.out⟩
class GB (w:AV) (want:Bool) (b:outParam Bool):Prop where
 out:∀(ops:Array Oper) (o:Oper) (env:List AV) (j d:Nat),o.guard=some (j,want)->(ops[j]?).bind (·.dst)=some d->env[d]?=some w->aG ops o env=some b
instance {b c want:Bool}:GB (gv b (.bool c)) want (b&&(c==want)):=⟨λ_ _ _ _ _ s o C=>vP s o C⟩
instance {c want:Bool}:GB (.bool c) want (c==want):=⟨λ_ _ _ _ _ s o C=>by simp only [aG,s,o,C]⟩
class NE (a b:Nat):Prop where
 out:a ≠ b
instance {n:Nat}:NE 0 (n+1):=⟨by omega⟩
instance {n:Nat}:NE (n+1) 0:=⟨by omega⟩
instance {n m:Nat} [i:NE n m]:NE (n+1) (m+1):=⟨by have:=i.out;omega⟩
class NC (Ns:List Nat) (i:Nat):Prop where
 out:Ns.contains i=false
instance {i:Nat}:NC [] i:=⟨rfl⟩
instance {Ns:List Nat} {n i:Nat} [j:NE i n] [k:NC Ns i]:NC (n::Ns) i:=⟨by have:=k.out;have:=j.out;simp_all⟩
class PAD (n:Nat) (l:List AV) (r:outParam (List AV)):Prop where
 out:l++List.replicate (n - l.length) aundef=r
instance:PAD 0 [] []:=⟨rfl⟩
instance {n:Nat} {r:List AV} [i:PAD n [] r]:PAD (n+1) [] (aundef::r):=⟨by have:=i.out;simp only [uI,u6,Nat.sub_zero] at this ⊢;rw [sN,this]⟩
instance {n:Nat} {a:AV} {l r:List AV} [i:PAD n l r]:PAD (n+1) (a::l) (a::r):=⟨by have:=i.out;rw [<- this];simp only [ux,Nat.add_sub_add_right,tP]⟩
theorem xh (n:Nat) {k:Nat} {l r:List AV} (h:k=n) [i:PAD n l r]:l++List.replicate (k - l.length) aundef=r:=by rw [h];exact i.out
class RL (P:Program) (env:List AV) (h:AH) (rs:List ResultVar) (vs:outParam (List AV)):Prop where
 out:qq P env h rs=some vs
instance {P:Program} {env:List AV} {h:AH}:RL P env h [] []:=⟨rfl⟩
section
variable {P:Program} {env:List AV} {h:AH} {rs:List ResultVar} {vs cs cs' r:List AV} {t a k j:Nat} {L L':List Blk} {M:List Nat} {v v':AV} {td:TypeDesc}
instance [i:GT (.tmp t) env v] [j:RL P env h rs vs]:RL P env h (.tmp t::rs) (v::vs):=⟨xL i.out j.out⟩
instance [o:Ty P t td k] [D:NA td] [s:GT (.tmp a) env (.ptr (h.blks.length+j) 0)] [I:NRM L L'] [H:NTH j L' (.cells (v::cs))] [C:TYP P t v v'] [E:RL P env (h.ext L M) rs vs]:RL P env (h.ext L M) (.cell a t::rs) (v'::vs):=⟨wg o s.out (by rw [I.out];exact H.out) (by rw [D.out];exact zI rfl) C.out E.out⟩
instance [o:TA P t k] [s:GT (.tmp a) env (.ptr (h.blks.length+j) 0)] [J:NRM L L'] [H:NTH j L' (.cells cs)] [C:LENV cs k] [D:RL P env (h.ext L M) rs vs]:RL P env (h.ext L M) (.cell a t::rs) (.agg cs::vs):=⟨by
 obtain ⟨td,E,I⟩:=o.out;have K:=C.out;exact wg E s.out (by rw [J.out];exact H.out) (by rw [I];exact ldC_ag (sE (by omega)) (by grind)) (za (v:=.agg cs) rfl) D.out⟩
class TU (vs:List AV) (v:outParam AV):Prop where
 out:∀(P:Program) (fn:Func) (env:List AV) (h:AH),qq P env h fn.results.toList=some vs->aRes P fn env h=some v
instance:TU [] (.tup []):=⟨λP fn env h e=>by simp only [aRes,e]⟩
instance:TU [v] v:=⟨λP fn env h e=>by simp only [aRes,e]⟩
instance:TU (v::v'::vs) (.tup (v::v'::vs)):=⟨λP fn env h e=>by simp only [aRes,e]⟩
theorem fr {K:AV->AH->Prop} {h0:AH} (C:fn.results=⟨rs⟩) [i:RL P env h rs vs] [j:TU vs v] (o:finK h0 K v h):bodyQ P fn h0 K .ret env h:=by
 have s:=j.out P fn env h (by rw [C];exact i.out);simp only [bodyQ,s];exact o
theorem fe (C:fn.results=⟨rs⟩) [i:RL P env (h.ext L M) rs vs] [j:TU vs v] (s:v'.low h.blks.length h.toks.length=true) (o:leV v v'):bodyQ P fn h (λD hh=>D=v'/\hh=h) .ret env (h.ext L M):=fr C (yf o s ⟨rfl,rfl⟩)
theorem fz (s:fn.results=⟨rs⟩) [i:RL P env (h.ext L M) rs vs] [j:TU vs v] (o:v.low h.blks.length h.toks.length=true):bodyQ P fn h (λC hh=>C=v/\hh=h) .ret env (h.ext L M):=fe s o (leV.refl _)
end
class ARGS (P:Program) (env:List AV) (q:Bool) (xs:List Operand) (ts:List TypeId) (vs:outParam (List AV)):Prop where
 out:q=true->∃l,argo env xs ts=some l/\Fx P l vs
section
variable {P:Program} {env env' xs' vs fs cs:List AV} {q:Bool} {xs:List Operand} {ts:List TypeId} {t:TypeId} {x:Operand} {v v':AV} {d:Option Tmp} {p:String} {a:Array Edge} {g:FuncId} {h h':AH} {gd:Option (Nat×Bool)} {rest:List Oper} {Q:List AV->AH->Prop} {ops:Array Oper}
instance:ARGS P env q [] [] []:=⟨λ_=>⟨[],rfl,.nil⟩⟩
instance [i:GG x env q v] [j:TYP P t v v'] [k:ARGS P env q xs ts vs]:ARGS P env q (x::xs) (t::ts) (v'::vs):=⟨λo=>by
 obtain ⟨l,C,s⟩:=k.out o;exact ⟨_,ze (i.out o) C,.cons j.out s⟩⟩
theorem sc [i:ARGS P env q xs ts vs] (C:q=true):zF P ⟨d,.call ⟨.value (.func g),List.toArray xs,List.toArray ts⟩,t,p,a,gd⟩ env h=.call g vs:=by
 obtain ⟨l,s,o⟩:=i.out C;exact zJ rfl rfl rfl s o
theorem scC [s:GG x env q (.fn (.func g) fs cs)] [i:ARGS P env q xs ts vs] (o:q=true):zF P ⟨d,.call ⟨.value x,List.toArray xs,List.toArray ts⟩,t,p,a,gd⟩ env h=.call g (fs++vs++cs):=by
 obtain ⟨l,D,C⟩:=i.out o;exact s_callC rfl rfl (s.out o) D C rfl
theorem cp [i:ARGS P env true xs ts vs] [j:ST d env v env'] (hs:Spec P g vs h λr h'=>r=v/\h'=h) (o:zS P ops Q rest env' h):zS P ops Q (⟨d,.call ⟨.value (.func g),List.toArray xs,List.toArray ts⟩,t,p,a,none⟩::rest) env h :=
 zP rfl (sc rfl) hs j.out o
end
theorem gg {x:Operand} {env:List AV} {v:AV} [i:GT x env v]:yu env x=some v:=i.out
theorem ss {d:Option Tmp} {env env':List AV} {v:AV} [i:ST d env v env']:wL d env v=some env':=i.out
theorem oi {α:Type} {a b:α} (h:some a=some b):a=b:=uo h
class LENA (a:AV) (n:outParam Nat):Prop where
 out:aLen a=some n
section
variable {α:Type} {z n i t q' p k':Nat} {row:α->List AV} {L:List α} {es:List (List AV)} {qo:Option Nat}
instance:LENA (.sl z (L.map row)) L.length:=⟨vn⟩
instance:LENA (.osl qo z (L.map row)) L.length:=⟨lenMapO⟩
instance (priority:=low):LENA (.sl z es) es.length:=⟨rfl⟩
instance (priority:=low):LENA (.osl qo z es) es.length:=⟨rfl⟩
instance:LENA (.rsl i t z n) n:=⟨rfl⟩
instance:LENA (.msl z i t n) n:=⟨rfl⟩
instance:LENA (.rsuf i t z n p) (n - p):=⟨rfl⟩
end
class ISS (d:TypeDesc):Prop where
 out:d=.string
instance:ISS .string:=⟨rfl⟩
class LN (P:Program) (t:TypeId) (v:AV) (n:outParam Nat):Prop where
 out:∀(o:Oper) (env:List AV) (h:AH) (c:Call) (x:Operand),o.op=.call c->c.callee=.builtin .len->c.args=#[x]->c.argTypes=#[t]->yu env x=some v->zF P o env h=.len n (.int .i64 n) h
instance {P:Program} {t:TypeId} {d:TypeDesc} {k:Nat} {s:List UInt8} [i:Ty P t d k] [j:ISS d]:LN P t (.str s) s.length:=⟨λo env h c x E C I D H=>by
 have:=j.out;subst this;exact s_lenStr E C I D i H⟩
instance {P:Program} {t e:TypeId} {k n:Nat} {v:AV} [i:El P t e k] [j:LENA v n]:LN P t v n:=⟨λo env h c x D s H C E=>xw D s H C i E j.out⟩
class ISL (a:AV) (α:outParam Type) (z:outParam Nat) (row:outParam (α->List AV)) (L:outParam (List α)):Prop where
 out:IsSl a z row L
instance {α:Type} {z:Nat} {row:α->List AV} {L:List α}:ISL (.sl z (L.map row)) α z row L:=⟨isl⟩
instance {α:Type} {q:Option Nat} {z:Nat} {row:α->List AV} {L:List α}:ISL (.osl q z (L.map row)) α z row L:=⟨iosl⟩
section
variable {P:Program} {env env':List AV} {q want b:Bool} {t t' e:TypeId} {x i:Operand} {v v' w:AV} {d:Option Tmp} {p:String} {a:Array Edge} {h:AH} {rest l:List Oper} {Q:List AV->AH->Prop} {ops:Array Oper} {n j m z:Nat} {nn:Int} {k:IntKind} {α:Type} {row:α->List AV} {L:List α} {y:α} {Ns:List Nat} {F:Nat->AH->Prop} {i9:Nat}
theorem ln [o:GT x env v] [s:LN P t v n] [C:ST d env (.int .i64 n) env'] (D:n<=maxLen->zS P ops Q rest env' h):zS P ops Q (⟨d,.call ⟨.builtin .len,List.toArray [x],List.toArray [t]⟩,t',p,a,none⟩::rest) env h :=
 qs rfl (s.out _ _ _ _ _ rfl rfl rfl rfl o.out) C.out D
theorem lng [C:DST l j m] [J:GT (.tmp m) env w] [H:GB w want b] [o:GG x env b v] [E:LN P t v n] [D:ST d env (gv b (.int .i64 n)) env'] (s:(b=true->n<=maxLen)->zS P (List.toArray l) Q rest env' h) :
  zS P (List.toArray l) Q (⟨d,.call ⟨.builtin .len,List.toArray [x],List.toArray [t]⟩,t',p,a,some (j,want)⟩::rest) env h :=
 ops_glen (H.out _ _ _ _ _ rfl (by simpa using C.out) J.out) (λI=>E.out _ _ _ _ _ rfl rfl rfl rfl (o.out I)) D.out s
theorem ix [o:El P t e z] [s:GT x env v] [I:GT i env (.int k nn)] [D:ISL v α z row L] (E:yB L nn=some y) [H:ST d env (.fptr (row y)) env'] (C:zS P ops Q rest env' h):zS P ops Q (⟨d,.indexAddr t x i,t',p,a,none⟩::rest) env h :=
 zb rfl (s_idxRow rfl o s.out I.out D.out E) H.out C
theorem gix [Inhabited α] [E:DST l j m] [R:GT (.tmp m) env w] [O:GB w want b] [s:El P t e z] [C:GG x env b v] [K:GG i env b (.int k nn)] [H:ISL v α z row L] (I:b=true->0<=nn/\nn < L.length) [J:ST d env (gv b (.fptr (row (L.getD nn.toNat default)))) env'] (D:zS P (List.toArray l) Q rest env' h) :
  zS P (List.toArray l) Q (⟨d,.indexAddr t x i,t',p,a,some (j,want)⟩::rest) env h :=
 zY (O.out _ _ _ _ _ rfl (by simpa using E.out) R.out) (λo=>s_gidxRow default rfl s (C.out o) (K.out o) H.out (I o)) J.out D
theorem dgix [Inhabited α] [NC Ns i9] [E:DST l j m] [R:GT (.tmp m) env w] [O:GB w want b] [s:El P t e z] [C:GG x env b v] [K:GG i env b (.int k nn)] [H:ISL v α z row L] (I:b=true->0<=nn/\nn < L.length) [J:ST d env (gv b (.fptr (row (L.getD nn.toNat default)))) env'] (D:yd P (List.toArray l) Ns F Q (i9+1) rest env' h) :
  yd P (List.toArray l) Ns F Q i9 (⟨d,.indexAddr t x i,t',p,a,some (j,want)⟩::rest) env h :=
 draw_gv NC.out (O.out _ _ _ _ _ rfl (by simpa using E.out) R.out) (λo=>s_gidxRow default rfl s (C.out o) (K.out o) H.out (I o)) J.out D
theorem dix [NC Ns i9] [o:El P t e z] [s:GT x env v] [I:GT i env (.int k nn)] [D:ISL v α z row L] (E:yB L nn=some y) [H:ST d env (.fptr (row y)) env'] (C:yd P ops Ns F Q (i9+1) rest env' h):yd P ops Ns F Q i9 (⟨d,.indexAddr t x i,t',p,a,none⟩::rest) env h :=
 zr NC.out rfl (s_idxRow rfl o s.out I.out D.out E) H.out C
end
abbrev yP (v:AV) (h:AH):AV->AH->Prop:=λrr hh=>rr=v/\hh=h
class LEV (a b:AV):Prop where
 out:leV a b
class LEL (a b:List AV):Prop where
 o:leL a b
instance {a:AV}:LEV a a:=⟨leV.refl _⟩
instance {q:Option Nat} {k:Nat} {e:List (List AV)}:LEV (.osl q k e) (.sl k e):=⟨leV.osl _ _ _⟩
instance:LEL [] []:=⟨leL.nil⟩
instance {a:AV} {r s:List AV} [i:LEL r s]:LEL (a::r) (.any::s):=⟨.drop i.o⟩
instance {a b:AV} {r s:List AV} [j:LEV a b] [i:LEL r s]:LEL (a::r) (b::s):=⟨.cons j.out i.o⟩
instance {l r:List AV} [i:LEL l r]:LEV (.tup l) (.tup r):=⟨.tup i.o⟩
class R (p:Prop) (G:outParam Prop):Prop where
 r:G->p
instance (priority:=low) R.refl {p:Prop}:R p p:=⟨id⟩
section
variable {P:Program} {ops:Array Oper} {F:Nat->AH->Prop} {Q:List AV->AH->Prop} {QS:Exit->List AV->AH->Prop} {rest l:List Oper} {env env':List AV} {h h0 h':AH} {G:Prop} {d:Option Tmp} {op:Op} {t:TypeId} {p:String} {a:Array Edge} {x:Operand} {v v' w:AV} {id i j n:Nat} {A B:Code} {want b:Bool} {N:List AV->AH->Prop}
instance [o:ONE P ⟨d,op,t,p,a,none⟩ env h true v] [s:ST d env v env'] [D:R (zS P ops Q rest env' h) G]:R (zS P ops Q (⟨d,op,t,p,a,none⟩::rest) env h) G:=⟨λC=>zb rfl (o.out rfl) s.out (D.r C)⟩
instance [o:ONE P ⟨d,op,t,p,a,none⟩ env h true v] [s:ST d env v env'] [D:R (yd P ops [] F Q (i+1) rest env' h) G]:R (yd P ops [] F Q i (⟨d,op,t,p,a,none⟩::rest) env h) G:=⟨λC=>zr rfl rfl (o.out rfl) s.out (D.r C)⟩
instance [o:DST l j n] [s:GT (.tmp n) env w] [H:GB w want b] [E:ONE P ⟨d,op,t,p,a,some (j,want)⟩ env h b v] [C:ST d env (gv b v) env'] [D:R (zS P (List.toArray l) Q rest env' h) G]:R (zS P (List.toArray l) Q (⟨d,op,t,p,a,some (j,want)⟩::rest) env h) G:=⟨λI=>zY (H.out _ _ _ _ _ rfl (by simpa using o.out) s.out) E.out C.out (D.r I)⟩
instance [o:DST l j n] [s:GT (.tmp n) env w] [H:GB w want b] [E:ONE P ⟨d,op,t,p,a,some (j,want)⟩ env h b v] [C:ST d env (gv b v) env'] [D:R (yd P (List.toArray l) [] F Q (i+1) rest env' h) G]:R (yd P (List.toArray l) [] F Q i (⟨d,op,t,p,a,some (j,want)⟩::rest) env h) G:=⟨λI=>draw_gv rfl (H.out _ _ _ _ _ rfl (by simpa using o.out) s.out) E.out C.out (D.r I)⟩
instance [o:EFF P ⟨d,op,t,p,a,none⟩ env h v h'] [s:ST d env v env'] [D:R (zS P ops Q rest env' h') G]:R (zS P ops Q (⟨d,op,t,p,a,none⟩::rest) env h) G:=⟨λC=>zb rfl o.out s.out (D.r C)⟩
instance [i:R (Q env h) G]:R (zS P ops Q [] env h) G:=⟨λo=>zn (i.r o)⟩
instance {Ns:List Nat} {i:Nat} [j:R (Q env h) G]:R (yd P ops Ns F Q i [] env h) G:=⟨λo=>draw_nil (j.r o)⟩
instance (priority:=low) {Ns:List Nat} [o:NC Ns i] [D:ONE P ⟨d,op,t,p,a,none⟩ env h true v] [s:ST d env v env'] [C:R (yd P ops Ns F Q (i+1) rest env' h) G]:R (yd P ops Ns F Q i (⟨d,op,t,p,a,none⟩::rest) env h) G:=⟨λE=>zr o.out rfl (D.out rfl) s.out (C.r E)⟩
instance (priority:=low) {Ns:List Nat} [o:NC Ns i] [s:DST l j n] [C:GT (.tmp n) env w] [I:GB w want b] [H:ONE P ⟨d,op,t,p,a,some (j,want)⟩ env h b v] [D:ST d env (gv b v) env'] [E:R (yd P (List.toArray l) Ns F Q (i+1) rest env' h) G]:R (yd P (List.toArray l) Ns F Q i (⟨d,op,t,p,a,some (j,want)⟩::rest) env h) G:=⟨λJ=>draw_gv o.out (I.out _ _ _ _ _ rfl (by simpa using s.out) C.out) H.out D.out (E.r J)⟩
instance [i:R (vN P A (seqQ P h B QS) env h) G]:R (vN P (.seq A B) QS env h) G:=⟨λk=>zz (i.r k)⟩
instance [i:R (zS P (List.toArray l) (QS .normal) l env h) G]:R (vN P (.region id (List.toArray l) false) QS env h) G:=⟨λk=>zf (i.r k)⟩
instance [i:R (vN P A (blockQ id QS) env h) G]:R (vN P (.block id A) QS env h) G:=⟨λk=>xG (i.r k)⟩
instance [i:R (QS .normal env h) G]:R (vN P .skip QS env h) G:=⟨λk=>x5 (i.r k)⟩
instance [i:R (QS .normal env h) G]:R (vN P (.label id) QS env h) G:=⟨λk=>r_label (i.r k)⟩
instance [i:R (QS .ret env h) G]:R (vN P .ret QS env h) G:=⟨λk=>wj (i.r k)⟩
instance [i:R (QS (.exit id) env h) G]:R (vN P (.exit id) QS env h) G:=⟨λk=>r_exit (i.r k)⟩
instance [i:R (vN P B QS env h) G]:R (seqQ P h0 B QS .normal env h) G:=⟨λk=>zy (i.r k)⟩
instance [i:R (QS .ret env h) G]:R (seqQ P h0 B QS .ret env h) G:=⟨λk=>wR (i.r k)⟩
instance [i:R (QS (.exit id) env h) G]:R (seqQ P h0 B QS (.exit id) env h) G:=⟨λk=>xM (i.r k)⟩
instance [i:R (QS .normal env h) G]:R (blockQ id QS .normal env h) G:=⟨λk=>vU (i.r k)⟩
instance [i:R (QS .ret env h) G]:R (blockQ id QS .ret env h) G:=⟨λk=>q_block_ret (i.r k)⟩
instance [i:R (QS .normal env h) G]:R (blockQ id QS (.exit id) env h) G:=⟨λk=>xE (i.r k)⟩
instance [i:R (QS .ret env h) G]:R (loopQ N QS .ret env h) G:=⟨λk=>q_loop_ret (i.r k)⟩
instance [i:R (QS (.exit id) env h) G]:R (loopQ N QS (.exit id) env h) G:=⟨λk=>xD (i.r k)⟩
instance [i:R (N env h) G]:R (loopQ N QS .normal env h) G:=⟨λk=>q_loop (i.r k)⟩
instance {fn:Func} {K:AV->AH->Prop} [i:R (bodyQ P fn h0 K .ret env h) G]:R (bodyQ P fn h0 K .normal env h) G:=⟨λk=>q_end (i.r k)⟩
end
end Go.Vv
namespace Go.Vv
open Go Go.RowKit
variable {B':List Blk} {T':List Nat} {n i:Nat} {t e:TypeId} {x:Operand}
section
variable {B:Nat} {w0 w:World} {g:Gh} {h:AH}
theorem Rel.freeze (r:Rel B w0 g h w) {q i k:Nat} {es:List (List AV)} (R:h.blks[q]?=some (.row i k es)) :
  ∃g',g.le g'/\Rel B w0 g' { h.put q .dead with toks:=h.toks.set i (es.length+1) } w/\g'.δ=g.δ/\∀O v,V g (.rsl O i k es.length) v->V g' (.sl k es) v:=by
 obtain ⟨N,t,z,D,J,C,I,F⟩:=r.rowAt R
 let T:TI:=⟨es.length+1,none,true⟩
 have y:t.n < T.n:=by grind
 have E:=Gh.le_setT (g:=g) (t':=T) z y D.symm;have Q:=r.setRowG (t':=T) (nb:=.dead) z y D rfl N R trivial (λ_ _ _ e=>by cases e) (λ_ _ _ e=>by cases e) (λ_ _ e=>by cases e);rcases F with rfl | ⟨b,o,e,cs,ty,G,k2,W,k4,k5⟩
 ·refine ⟨_,E,Q,rfl,λO v m=>?_⟩;simp only [V] at m ⊢
  grind
 ·have A:∀(j:Nat) (u:TI) (l H:Nat),(g.setT i T).τ[j]?=some u->u.loc=some (b,l,H)->False:=by
   intro j u l H s K;simp only [Gh.setT] at s;by_cases hji:j=i
   ·grind
   ·rw [uR (λe=>hji e.symm)] at s;exact hji (r.tinj _ _ _ _ b _ _ s z K G)
  have r2:=Q.vow (b:=b) (f:=λj=>if o<=j/\j < o+es.length * k then cs[j]? else none)
   (λj v m=>by
    split at m
    ·rw [cell_of_row w b j cs ty (0,0) k2];exact m
    ·cases m)
   (λj c s _=>(r.sep j c i t b _ s z G).symm)
   (λj u l H s K=>(A j u l H s K).elim)
   (r.ntok z G)
  have p:=E.trans (Gh.le_vow (g.setT i T) b λj=>if o<=j/\j < o+es.length * k then cs[j]? else none);refine ⟨_,p,r2,rfl,λO v m=>?_⟩;simp only [V] at m ⊢;obtain ⟨a,c,rfl,X,U,S,Y,_,_,d⟩:=m;obtain rfl:t=S:=by simp_all
  refine ⟨a,c,rfl,X,U,?_⟩;rcases d with ⟨h0,_⟩ | ⟨b',Z,rfl,d⟩
  ·simp_all
  ·have d:=d J.symm;rw [G] at d;injection d with d;injection d with e1 d;injection d with e2 _;obtain rfl:o=Z:=by omega
   subst e1;refine .inr ⟨b,o,rfl,VE_iff.2 ⟨C,VC.ofVA (W.mono p) I λj v m=>?_⟩⟩;rw [uu] at m;split at m
   ·rename_i s;rw [uB,uF] at m;simp only [Gh.vow,Gh.setT,ut]
    simp_all
   ·cases m
end

theorem gok_now {P:Program} {B:Nat} {w0 w:World} [G:GOk P B w0] (hb:Below B w0 w):GOk P w.heap.size w :=
 ⟨World.ShapedOpen.keptBut G.sh ((hb.mono G.sz).frame (λ_=>False)) (λ_ h=>h.elim),ug _,laid_below G.lay G.sz hb⟩
def AV.scal:AV->Bool
 | .bool _ | .int _ _ | .str _=>true
 | .tup [.bool _] | .tup [.int _ _] | .tup [.int _ _,.bool _]=>true
 | _=>false
theorem V.scal {g g':Gh} {a:AV} {v:Value} (hs:a.scal=true) (b:V g a v):V g' a v:=by
 unfold AV.scal at hs;split at hs <;> first | (simpa only [V,VL] using b) | cases hs
def sealed:Option BK->Nat->Bool
 | some (.gar _ f),j=>(f j).isSome
 | some (.shut _),_=>true
 | _,_=>false
def gR (B:Nat) (w:World) (g:Gh):Gh :=
 { Φ:=λb j=>if b < w.heap.size/\sealed (g.N b) j=false then w.cell? ⟨b,j,none⟩ else none,σ:=[],τ:=[],δ:=[],N:=λb=>match g.N b with | some x=>some x | none=>if B<=b then (w.heap[b]?).map .frz else none,O:=g.O }
theorem Rel.unsealed {B:Nat} {w0 w:World} {g:Gh} {h:AH} (r:Rel B w0 g h w) {b j:Nat} {v:Value} (e:g.Φ b j=some v):sealed (g.N b) j=false:=by
 rcases hx:g.N b with _ | x
 ·rfl
 ·have:=r.nb b x hx;cases x with
  | gar s f =>
   rcases hf:f j with _ | k
   ·simp [sealed,hf]
   ·rw [this.2.2.2 j (by rw [hf];simp)] at e;cases e
  | shut o=>rw [this.2.2.2 j] at e;cases e
  | _=>rfl
theorem lv_now {B:Nat} {w0 w:World} {g:Gh} {h:AH} (r:Rel B w0 g h w):(g.cut 0 0).lv (gR B w g) :=
 ⟨λb j v e=>by
     have e:g.Φ b j=some v:=e;simp only [gR,uz (And.intro (r.phi_lt e) (r.unsealed e))];exact r.phi b j v e,λi c e=>by simp [Gh.cut] at e,λi t e=>by simp [Gh.cut] at e,λb x e=>by
     have e:g.N b=some x:=e;simp only [gR,e],λ_ e=>e⟩
theorem relR {B:Nat} {w0 w:World} {g:Gh} {h:AH} (r:Rel B w0 g h w):Rel B w0 (gR B w g) h0 w:=by
 refine ⟨r.below,r.bsz,λb j v h=>?_,rfl,λi c k hc _=>by simp [gR] at hc,rfl,λi t l=>by simp [gR] at l,λi j c hi=>by simp [gR] at hi,λi j t t' b x y hi=>by simp [gR] at hi,λi c j t b x hi=>by simp [gR] at hi,λc hc=>by simp [gR] at hc,λi k hi=>by simp [gR] at hi,λi j t k k' es es' hi=>by simp [h0] at hi,λb x d=>?_,λb d=>⟨(r.ob b d).1,λs=>?_⟩,λb _=>⟨λi=>by simp [gR],by simp [gR],λi t y l=>by simp [gR] at l⟩⟩
 ·simp only [gR] at h
  simp_all
 ·have a:Apart (gR B w g) b:=⟨λi=>by simp [gR],by simp [gR],λi t y l=>by simp [gR] at l⟩
  rcases hx:g.N b with _ | y
  ·simp only [gR,hx] at d;split at d
   ·rename_i q;obtain ⟨o,m,rfl⟩:=sd.1 d;exact ⟨q,a,m⟩
   ·cases d
  ·simp only [gR,hx,ui] at d;subst d;have:=r.nb b _ hx;cases y with
   | new s=>exact ⟨this.1,a,this.2.2⟩
   | gar s f=>exact ⟨this.1,a,this.2.2.1,λj p=>by simp [gR,hx,sealed,pq.2 p]⟩
   | shut o=>exact ⟨this.1,a,this.2.2.1,λj=>by simp [gR,hx,sealed]⟩
   | frz o=>exact ⟨this.1,a,this.2.2⟩
 ·have:=(r.ob b d).2 s;rcases hx:g.N b with _ | y
  ·simp only [gR,hx]
   simp_all
  ·rw [hx] at this;simp only [gR,hx];exact this
theorem Rel.after {B:Nat} {w0 w w':World} {g I:Gh} {h m:AH} (r:Rel B w0 g h w) (p:(gR B w g).le I) (u:Rel B w0 I m w'):Rel B w0 g h w':=by
 have a:∀b,b < w.heap.size->(g.N b=none \/ ∃o,g.N b=some (.frz o))->w'.heap[b]?=w.heap[b]?:=by
  intro b z D;by_cases hB:b < B
  ·exact (u.below.block b hB).trans (r.below.block b hB).symm
  ·rcases D with D | ⟨o,D⟩
   ·have d:(gR B w g).N b=some (.frz w.heap[b]):=by simp only [gR,D,uz (Nat.not_lt.1 hB)];rw [uO z];rfl
    have:=u.nb b _ (p.new _ _ d);rw [this.2.2,uO z]
   ·have d:(gR B w g).N b=some (.frz o):=by simp only [gR,D]
    exact (u.nb b _ (p.new _ _ d)).2.2.trans (r.nb b _ D).2.2.symm
 have J:w.heap.size<=w'.heap.size:=by
  rcases sU w.heap.size with h0 | h0
  ·omega
  ·by_cases hB:w.heap.size - 1 < B
   ·have:=u.bsz;omega
   ·have:∃x,(gR B w g).N (w.heap.size - 1)=some x:=by
     simp only [gR];cases F:g.N (w.heap.size - 1) with
     | some x=>exact ⟨x,rfl⟩
     | none=>exact ⟨.frz (w.heap[w.heap.size - 1]),by simp_all⟩
    obtain ⟨x,F⟩:=this;have:=u.nlt (p.new _ _ F);omega
 have E:∀(i:Nat) (t:TI) (b:Nat) (y:Nat×Nat),g.τ[i]?=some t->t.loc=some (b,y)->w'.heap[b]?=w.heap[b]?:=λi t b y A C=>by
  exact a b ((r.tok i t A).2 b y.1 y.2 C).lt (.inl (r.ntok A C))
 refine ⟨u.below,u.bsz,λb j v e=>?_,r.slen,λi c k hc G=>?_,r.tlen,λi t A=>?_,r.sinj,r.tinj,r.sep,λc hc=>?_,λi k hi G=>?_,r.rinj,λb x z=>?_,λb z=>⟨si (r.ob b z).1 J,(r.ob b z).2⟩,r.oa⟩
 ·have d:(gR B w g).Φ b j=some v:=by simp only [gR,uz (And.intro (r.phi_lt e) (r.unsealed e))];exact r.phi b j v e
  exact u.phi b j v (p.phi _ _ _ d)
 ·obtain ⟨d,m,H,K⟩:=r.blk i c k hc G;exact ⟨d,by omega,H.mono (Gh.le.refl g) (a c m (.inl (r.nsig hc))),K⟩
 ·obtain ⟨d,m⟩:=r.tok i t A;exact ⟨d,λb l e C=>(m b l e C).mono J (E i t b _ A C) λ_ _=>rfl⟩
 ·obtain ⟨d,m,H⟩:=r.dfr c hc;refine ⟨d,(a c (r.dfr_lt hc) ?_).trans m,H⟩;rcases F:g.N c with _ | x
  ·simp_all
  ·have:=r.nb c x F;cases x <;> exact absurd hc this.2.1.2.1
 ·exact (r.row i k hi G).mono (Gh.le.refl g) (λ_ _ h _=>h) (λi t b x A _ C=>⟨E i t b x A C,λ_=>rfl⟩)
 ·have q:=r.nb b x z;have d:(gR B w g).N b=some x:=by simp only [gR,z]
  have m:=u.nb b x (p.new _ _ d);cases x with
  | new s=>exact ⟨q.1,q.2.1,m.2.2⟩
  | gar s f=>exact ⟨q.1,q.2.1,m.2.2.1,q.2.2.2⟩
  | shut o=>exact ⟨q.1,q.2.1,m.2.2.1,q.2.2.2⟩
  | frz o=>exact ⟨q.1,q.2.1,m.2.2⟩

theorem RdA.soundRow {B:Nat} {w0 w:World} {g:Gh} {h:AH} (r:Rel B w0 g h w) {id t k n:Nat} {es:List (List AV)} (q:h.blk id=some (.row t k es)) (I:n=es.length) {v:Value} (f:V g (.rsl id t k n) v):V (gR B w g) (.sl k es) v:=by
 subst I;obtain ⟨_,J,y,F,u,m,l,p⟩:=r.rowAt q;simp only [V] at f ⊢;obtain ⟨a,c,rfl,E,C,A,G,_,_,d⟩:=f;obtain rfl:J=A:=by simp_all
 refine ⟨a,c,rfl,E,C,?_⟩;rcases d with ⟨h0,_⟩ | ⟨O,H,rfl,d⟩
 ·simp_all
 ·have d:=d u.symm;rcases p with rfl | ⟨b,o,e,cs,ty,z,k2,D,S,Q⟩
  ·simp_all
  ·rw [z] at d;injection d with d;injection d with K d;injection d with R _;obtain rfl:o=H:=by omega
   subst K;have q:b < w.heap.size:=(uN.1 k2).1;have s:VA (gR B w g) es.flatten ((cs.toList.drop o).take (es.length * k)):=VA.monoV (lv_now r) _ _ (VA.cut _ _ (vW l) D);refine .inr ⟨b,o,rfl,VE_iff.2 ⟨m,VC.ofVA s l λj v f=>?_⟩⟩;rw [uu] at f;split at f
   ·rw [uB,uF] at f;have hsl:sealed (g.N b) (o+j)=false:=by rw [r.ntok y z];rfl
    simp only [gR,uz (And.intro q hsl)];rw [cell_of_row w b (o+j) cs ty (0,0) k2];exact f
   ·cases f
mutual
inductive RdA (h:AH):AV->AV->Prop
 | low (a:AV) (hl:a.low 0 0=true):RdA h a a
 | row (id t k n:Nat) (es:List (List AV)) (hb:h.blk id=some (.row t k es)) (hn:n=es.length):RdA h (.rsl id t k n) (.sl k es)
 | osl (q:Option Nat) (k:Nat) (es:List (List AV)) (hl:(AV.sl k es).low 0 0=true):RdA h (.osl q k es) (.sl k es)
 | agg {cs bs:List AV} (x:RdL h cs bs) (ho:bs.all AV.one=true):RdA h (.agg cs) (.agg bs)
inductive RdL (h:AH):List AV->List AV->Prop
 | nil:RdL h [] []
 | cons {a b:AV} {xs bs:List AV} (x:RdA h a b) (y:RdL h xs bs):RdL h (a::xs) (b::bs)
end
theorem V.low0 {B:Nat} {w0 w:World} {g:Gh} {h:AH} (r:Rel B w0 g h w) {a:AV} {v:Value} (b:a.low 0 0=true) (c:V g a v):V (gR B w g) a v:=V.monoV (lv_now r) _ _ (V.cut _ _ b c)
mutual
theorem RdA.sound {B:Nat} {w0 w:World} {g:Gh} {h:AH} (r:Rel B w0 g h w):∀{a b:AV} {v:Value},RdA h a b->V g a v->V (gR B w g) b v
 | _,_,_,.low _ hl,hv=>V.low0 r hl hv
 | _,_,_,.row _ _ _ _ _ hb hn,hv=>RdA.soundRow r hb hn hv
 | _,_,_,.osl q k es hl,hv=>V.low0 r hl (leV.osl q k es g _ hv)
 | _,_,_,.agg x ho,hv=>by
  simp only [V] at hv ⊢;obtain ⟨vs,rfl,c⟩:=hv;exact ⟨vs,rfl,VA.mk (RdL.sound r x c.toVL) ho⟩
theorem RdL.sound {B:Nat} {w0 w:World} {g:Gh} {h:AH} (r:Rel B w0 g h w):∀{xs bs:List AV} {vs:List Value},RdL h xs bs->VL g xs vs->VL (gR B w g) bs vs
 | _,_,_,.nil,hv=>by simpa only [VL] using hv
 | _,_,_,.cons x y,hv=>by
  simp only [VL] at hv ⊢;obtain ⟨v,s,rfl,c,d⟩:=hv;exact ⟨v,s,rfl,RdA.sound r x c,RdL.sound r y d⟩
end
theorem qD {P:Program} {f:FuncId} {xs bs:List AV} {h:AH} {R:AV} {K:AV->AH->Prop} (l:RdL h xs bs) (hs:R.scal=true) (s:Spec P f bs h0 K) (j:∀a hh,K a hh->a=R) :
  Spec P f xs h (λa hh=>a=R/\hh=h) :=
 ⟨s.1,λB w0 _ g w vs r p=>by
  refine (s.2 B w0 (gR B w g) w vs (relR r) (l.sound r p)).mono ?_
  rintro e w' ⟨v,x,q,g',rfl,d,b,c,m⟩
  obtain rfl:=j _ _ d;exact ⟨v,_,h,g,rfl,⟨rfl,rfl⟩,Gh.le.refl g,r.after b c,V.scal hs m⟩⟩

theorem V.thaw {g:Gh} {k:Nat} {v:Value} {q:Nat} (d:V g (.osl none k []) v):V ((g.addT ⟨0,none,true⟩).addS none) (.rsl q g.τ.length k 0) v:=by
 simp only [V] at d ⊢;obtain ⟨a,c,rfl,j,f,_,b⟩:=d;have b:c=0:=b;refine ⟨a,c,rfl,j,f,⟨0,none,true⟩,?_,rfl,ug _,.inl ⟨rfl,b⟩⟩;simp [Gh.addT,Gh.addS]
theorem rowOk_nil {g:Gh} {w:World} {k:Nat}:RowOk ((g.addT ⟨0,none,true⟩).addS none) w g.τ.length k [] :=
 ⟨⟨0,none,true⟩,by simp [Gh.addT,Gh.addS],rfl,rfl,by simp,by simp,.inl rfl⟩
theorem swk.wk {hd h c:AH} {env a:List AV} (k:swk env h a c):wk hd env h a c:=λB w0 w _ l g vs _ d r j=>by
 obtain ⟨g',b,k2,f⟩:=k B w0 w g vs r j;exact ⟨g',d.trans b,k2,f,b.del⟩
theorem qk {h:AH} {env b:List AV} {B:List Blk} {T:List Nat} {d k m:Nat} (C:yu env (.tmp d)=some (.osl none k [])) (z:B.length=n) (A:T.length=m)
  (s:wL (some d) env (.rsl (h.blks.length+n) (h.toks.length+m) k 0)=some b) (D:B++[.row (h.toks.length+m) k []]=B') (y:T++[0]=T') :
  swk env (h.ext B T) b (h.ext B' T'):=λ_ _ w g vs r u=>by
 subst z A D y;simp only [wL,ui] at s;subst s;have c:g.τ.length=h.toks.length+T.length:=by rw [r.tlen];simp [AH.ext]
 have f:=(g.le_addT ⟨0,none,true⟩).trans (Gh.le_addS _ none);have q:=r.newRowT ⟨0,none,true⟩ k [] (λ_ _ _ h=>by cases h) (λ_ _ h=>by cases h) rowOk_nil;have e:(({ (h.ext B T) with toks:=(h.ext B T).toks++[0] }:AH).new (.row g.τ.length k []))=h.ext (B++[.row (h.toks.length+T.length) k []]) (T++[0]):=by
  rw [c];simp [AH.ext,AH.new,uC]
 rw [e] at q;refine ⟨_,f,q,VL.setE (VL.mono f _ _ u) d _ λv l=>?_⟩;obtain ⟨a,j,E⟩:=u.getR _ _ l;have p:env[d]?=some (.osl none k []):=C;rw [p] at j;injection j with j;subst j;rw [<- c];exact E.thaw

mutual
inductive FzA (i k:Nat) (es:List (List AV)):AV->AV->Prop
 | same (a:AV):FzA i k es a a
 | hit (q:Nat):FzA i k es (.rsl q i k es.length) (.sl k es)
 | hit2 (q n:Nat) (hn:n=es.length):FzA i k es (.rsl q i k n) (.sl k es)
 | agg {cs bs:List AV} (x:FzL i k es cs bs) (ho:bs.all AV.one=true):FzA i k es (.agg cs) (.agg bs)
 | tup {cs bs:List AV} (x:FzL i k es cs bs):FzA i k es (.tup cs) (.tup bs)
inductive FzL (i k:Nat) (es:List (List AV)):List AV->List AV->Prop
 | refl (xs:List AV):FzL i k es xs xs
 | cons {a b:AV} {xs bs:List AV} (x:FzA i k es a b) (y:FzL i k es xs bs):FzL i k es (a::xs) (b::bs)
end
theorem FzL.s {k:Nat} {es:List (List AV)} {a:AV} {xs bs:List AV} (y:FzL i k es xs bs):FzL i k es (a::xs) (a::bs):=.cons (.same _) y
theorem FzL.s4 {k:Nat} {es:List (List AV)} {a b c d:AV} {xs bs:List AV} (y:FzL i k es xs bs):FzL i k es (a::b::c::d::xs) (a::b::c::d::bs):=.s (.s (.s (.s y)))
theorem FzL.s16 {k:Nat} {es:List (List AV)} {a b c d e f g h j l m n o p q r:AV} {xs bs:List AV} (y:FzL i k es xs bs):FzL i k es (a::b::c::d::e::f::g::h::j::l::m::n::o::p::q::r::xs) (a::b::c::d::e::f::g::h::j::l::m::n::o::p::q::r::bs):=.s4 (.s4 (.s4 (.s4 y)))
mutual
theorem FzA.sound {g g':Gh} (c:g.le g') {i k:Nat} {es:List (List AV)} (d:∀q v,V g (.rsl q i k es.length) v->V g' (.sl k es) v):∀{a b:AV} {v:Value},FzA i k es a b->V g a v->V g' b v
 | _,_,_,.same _,hv=>hv.mono c
 | _,_,_,.hit q,hv=>d q _ hv
 | _,_,_,.hit2 q n hn,hv=>by grind
 | _,_,_,.agg x ho,hv=>by
  simp only [V] at hv ⊢;obtain ⟨vs,rfl,f⟩:=hv;exact ⟨vs,rfl,VA.mk (FzL.sound c d x f.toVL) ho⟩
 | _,_,_,.tup x,hv=>by
  simp only [V] at hv ⊢;obtain ⟨vs,rfl,f⟩:=hv;exact ⟨vs,rfl,FzL.sound c d x f⟩
theorem FzL.sound {g g':Gh} (c:g.le g') {i k:Nat} {es:List (List AV)} (d:∀q v,V g (.rsl q i k es.length) v->V g' (.sl k es) v):∀{xs bs:List AV} {vs:List Value},FzL i k es xs bs->VL g xs vs->VL g' bs vs
 | _,_,_,.refl _,hv=>hv.mono c
 | _,_,_,.cons x y,hv=>by
  simp only [VL] at hv ⊢;obtain ⟨v,s,rfl,f,j⟩:=hv;exact ⟨v,s,rfl,FzA.sound c d x f,FzL.sound c d y j⟩
end
theorem yz {h:AH} {env a:List AV} {B:List Blk} {T:List Nat} {j m k:Nat} {es:List (List AV)} (f:B[j]?=some (.row (h.toks.length+m) k es)) (q:FzL (h.toks.length+m) k es env a)
  (v:B.set j .dead=B') (l:T.set m (es.length+1)=T'):swk env (h.ext B T) a (h.ext B' T'):=λ_ _ w g vs r u=>by
 subst v l;have c:(h.ext B T).blks[h.blks.length+j]?=some (.row (h.toks.length+m) k es):=by
  simp only [AH.ext];rw [uj (by omega),uv];exact f
 obtain ⟨g',b,d,p,s⟩:=r.freeze c;have e:({ (h.ext B T).put (h.blks.length+j) .dead with toks:=(h.ext B T).toks.set (h.toks.length+m) (es.length+1) }:AH)=h.ext (B.set j .dead) (T.set m (es.length+1)):=by
  simp only [AH.ext,AH.put,AH.mk.injEq]
  simp_all
 rw [e] at d;exact ⟨g',b,d,q.sound b s u⟩

section
variable {α:Type} {row:α->List AV} {L M:List α} {k:Nat}
theorem flat_len (a:∀x,(row x).length=k):∀L:List α,(L.map row).flatten.length=L.length * k
 | []=>by simp
 | x::t=>by simp only [uw,uU,uq,ux,flat_len a t,a x,t8];omega
theorem flat_drop (a:∀x,(row x).length=k):∀(L:List α) (i:Nat),(L.map row).flatten.drop (i * k)=((L.drop i).map row).flatten
 | [],i=>by simp
 | x::t,0=>by simp
 | x::t,i+1=>by
  rw [uw,uU,t8,pW,<- tn,rY (a x),flat_drop a t i];rfl
theorem flat_take (a:∀x,(row x).length=k):∀(L:List α) (i:Nat),(L.map row).flatten.take (i * k)=((L.take i).map row).flatten
 | [],i=>by simp
 | x::t,0=>by simp
 | x::t,i+1=>by
  rw [uw,uU,t8,pW,tV,uK (by simp_all),a x,uv,flat_take a t i];rfl
theorem drop_at {y:α} (a:L[i]?=some y):L.drop i=y::L.drop (i+1):=by
 obtain ⟨h,rfl⟩:=uc.1 a
 simp_all
theorem ldC_row (b:∀x,(row x).length=k) {ag:Bool} {m i off:Nat} {y:α} {v:AV} (d:L[i]?=some y) (a:ldC ag m off (row y)=some v) (j:0 < m):ldC ag m (i * k+off) (L.map row).flatten=some v:=by
 have e:(L.map row).flatten.drop (i * k)=row y++((L.drop (i+1)).map row).flatten:=by rw [flat_drop b,drop_at d];rfl
 have hi:i < L.length:=(uc.1 d).1;have f:(i+1) * k<=L.length * k:=u7 k hi;rw [t8] at f;unfold ldC at a ⊢;cases ag with
 | true =>
  simp only [ut] at a ⊢;split at a
  ·rename_i c;rw [b y] at c;rw [uz (by rw [flat_len b];omega),<- tn,e,sm (by grind),uV (by grind)];exact a
  ·cases a
 | false =>
  simp only [um,uJ] at a ⊢;have l:off < (row y).length:=(uc.1 a).1;have:(L.map row).flatten[i * k+off]?=((L.map row).flatten.drop (i * k))[off]?:=by grind
  grind
theorem rows_map (a:∀x,(row x).length=k):∀L:List α,rows k L.length (L.map row).flatten=L.map row
 | []=>rfl
 | x::t=>by
  simp only [ux,rows,uw,uU];rw [pO (a x),rY (a x),rows_map a t]
theorem splice_row (a:∀x,(row x).length=k) {i off:Nat} {y y':α} {vs:List AV} (c:L[i]?=some y) (hs:y8 (row y) off vs=row y') (l:off+vs.length<=k) :
  rows k L.length (y8 (L.map row).flatten (i * k+off) vs)=(L.set i y').map row:=by
 have hi:i < L.length:=(uc.1 c).1;have f:(L.map row).flatten=((L.take i).map row).flatten++(row y++((L.drop (i+1)).map row).flatten):=by
  conv=>lhs;rw [<- rM i L,drop_at c]
  simp
 have b:((L.take i).map row).flatten.length=i * k:=by rw [flat_len a,tq,sX (by omega)]
 have j:y8 (L.map row).flatten (i * k+off) vs=((L.set i y').map row).flatten:=by
  rw [List.set_eq_take_append_cons_drop,uz hi];simp only [tN,uw,sf,uU,<- hs];rw [f];unfold y8;have d:=a y;rw [tV,b,uK (by omega),uv,uV (by omega)];rw [sZ,sS,b,tj (by omega),uv,uI,sm (by omega)]
  simp_all
 rw [j];have:=rows_map a (L.set i y')
 rwa [uQ] at this
variable {P:Program} {o:Oper} {env:List AV} {h:AH} {B:List Blk} {T:List Nat}
theorem wt {i:Operand} {id q:Nat} {d:IntKind} {z:Int} (b:o.op=.indexAddr t x i) (c:El P t e k) (f:yu env x=some (.rsl id q k n)) (hi:yu env i=some (.int d z)) (a:0<=z/\z < n) :
  zF P o env h=.ok (.rptr id q k n (z.toNat * k+0)) h:=s_indexAddr b c f hi (by simp only [vO];rw [uz ⟨trivial,a.1,a.2⟩];rfl)
theorem e_ldR (c:∀x,(row x).length=k) {t:TypeId} {d:TypeDesc} {m i q n z off:Nat} {x:Operand} {y:α} {v v':AV} (j:o.op=.load t x) (a:Ty P t d m) (r:0 < m) (p:yu env x=some (.rptr (h.blks.length+i) q k n (z * k+off)))
  (b:B[i]?=some (.row q k (L.map row))) (u:L.length=n) (l:L[z]?=some y) (s:ldC (yA d) m off (row y)=some v) (f:tyfix P t v=v'):zF P o env (h.ext B T)=.ok v' (h.ext B T):=by
 refine s_load j a p ?_ f;simp only [aLoad,yy,b];rw [uz ⟨trivial,trivial,by simp_all⟩];exact ldC_row c l s r
theorem e_stR (l:∀x,(row x).length=k) {t:TypeId} {d:TypeDesc} {m i q n z off:Nat} {x w:Operand} {y y':α} {b j:AV} {vs us:List AV} {B':List Blk} (C:o.op=.store t x w) (s:Ty P t d m) (D:yu env x=some (.rptr (h.blks.length+i) q k n (z * k+off)))
  (v:yu env w=some b) (A:tyfix P t b=j) (hc:j.cells?=some vs) (p:vs.length=m) (c:xB vs=some us) (u:B[i]?=some (.row q k (L.map row))) (E:L.length=n) (r:L[z]?=some y) (F:off+m<=k)
  (hs:y8 (row y) off us=row y') (G:B.set i (.row q k ((L.set z y').map row))=B'):zF P o env (h.ext B T)=.ok aundef (h.ext B' T):=by
 refine s_store C s D v A ?_;simp only [aStore,hc,yy,u];have f:z < L.length:=(uc.1 r).1;have a:(z+1) * k<=L.length * k:=u7 k f;rw [t8] at a;rw [uz ⟨trivial,trivial,by simp_all,p,by rw [flat_len l];omega⟩,c];simp only [<- E];rw [splice_row l r hs (by rw [qS c,p];omega),ext_put,G]
theorem qh {c:Call} {y:Operand} {u s:TypeId} {k' j:Nat} {a b p:AV} (v:o.op=.call c) (hc:c.callee=.builtin .append) (hs:c.args=#[x,y]) (q:c.argTypes=#[t,u]) (C:El P t e k)
  (f:El P u s k') (D:yu env x=some a) (A:yu env y=some b) (G:tyfix P t a=.rsl (h.blks.length+i) (h.toks.length+j) k n) (r:tyfix P u b=p) (E:aNews k p=some (M.map row)) (J:L.length+M.length<=lim)
  (hi:B[i]?=some (.row (h.toks.length+j) k (L.map row))) (l:L.length=n) (F:T[j]?=some n) (m:B.set i (.row (h.toks.length+j) k ((L++M).map row))=B') (d:T.set j (L++M).length=T') :
  zF P o env (h.ext B T)=.ok (.rsl (h.blks.length+i) (h.toks.length+j) k (L++M).length) (h.ext B' T'):=by
 subst l;refine s_append v hc hs q C f D A G r E ?_;simp only [aAppend,ul];by_cases h0:M.length=0
 ·have:M=[]:=uH h0;subst this;simp only [sY] at m d ⊢;simp only [u6,ut];have K:B.set i (.row (h.toks.length+j) k (L.map row))=B:=by
   refine uZ λz=>?_
   grind
  have I:T.set j L.length=T:=by
   refine uZ λz=>?_
   grind
  simp_all
 ·rw [uM h0,yy,hi];simp only;have H:(h.ext B T).toks[h.toks.length+j]?=some L.length:=by simp only [AH.ext];rw [uj (by omega),uv];exact F
  rw [uz (by simp_all)];rw [ext_put];simp only [AH.ext,sF _ _ (Nat.le_add_right _ _),uv,<- tN,uq] at m d ⊢;rw [m,d]
end
end Go.Vv
