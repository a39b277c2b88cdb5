/- Steps that nobody needs to tell: found by instances. -/
import Derived.Test.YtcociipjgndnaaaGreatVvIt
namespace Go.Vv
open Go
class GT (x:Operand) (env:List AV) (v:outParam AV):Prop where
 out:yF env x=some v
class ST (d:Option Tmp) (env:List AV) (v:AV) (env':outParam (List AV)):Prop where
 out:vZ d env v=some env'
class TY (v:AV) (v':outParam AV):Prop where
 out:tyo v=some v'
section
variable {v a0 a1 a2 a3 a4 a5 a6 a7 a8 a9 a10 a11 a12 a13 a14 a15:AV} {r r':List AV} {n:Nat}
instance {env:List AV}:ST none env v env:=⟨rfl⟩
instance:GT (.tmp 0) (a0::r) a0:=⟨rfl⟩
instance:ST (some 0) (a0::r) v (v::r):=⟨rfl⟩
instance:GT (.tmp 1) (a0::a1::r) a1:=⟨rfl⟩
instance:ST (some 1) (a0::a1::r) v (a0::v::r):=⟨rfl⟩
instance:GT (.tmp 2) (a0::a1::a2::r) a2:=⟨rfl⟩
instance:ST (some 2) (a0::a1::a2::r) v (a0::a1::v::r):=⟨rfl⟩
instance:GT (.tmp 3) (a0::a1::a2::a3::r) a3:=⟨rfl⟩
instance:ST (some 3) (a0::a1::a2::a3::r) v (a0::a1::a2::v::r):=⟨rfl⟩
instance:GT (.tmp 4) (a0::a1::a2::a3::a4::r) a4:=⟨rfl⟩
instance:ST (some 4) (a0::a1::a2::a3::a4::r) v (a0::a1::a2::a3::v::r):=⟨rfl⟩
instance:GT (.tmp 5) (a0::a1::a2::a3::a4::a5::r) a5:=⟨rfl⟩
instance:ST (some 5) (a0::a1::a2::a3::a4::a5::r) v (a0::a1::a2::a3::a4::v::r):=⟨rfl⟩
instance:GT (.tmp 6) (a0::a1::a2::a3::a4::a5::a6::r) a6:=⟨rfl⟩
instance:ST (some 6) (a0::a1::a2::a3::a4::a5::a6::r) v (a0::a1::a2::a3::a4::a5::v::r):=⟨rfl⟩
instance:GT (.tmp 7) (a0::a1::a2::a3::a4::a5::a6::a7::r) a7:=⟨rfl⟩
instance:ST (some 7) (a0::a1::a2::a3::a4::a5::a6::a7::r) v (a0::a1::a2::a3::a4::a5::a6::v::r):=⟨rfl⟩
instance:GT (.tmp 8) (a0::a1::a2::a3::a4::a5::a6::a7::a8::r) a8:=⟨rfl⟩
instance:ST (some 8) (a0::a1::a2::a3::a4::a5::a6::a7::a8::r) v (a0::a1::a2::a3::a4::a5::a6::a7::v::r):=⟨rfl⟩
instance:GT (.tmp 9) (a0::a1::a2::a3::a4::a5::a6::a7::a8::a9::r) a9:=⟨rfl⟩
instance:ST (some 9) (a0::a1::a2::a3::a4::a5::a6::a7::a8::a9::r) v (a0::a1::a2::a3::a4::a5::a6::a7::a8::v::r):=⟨rfl⟩
instance:GT (.tmp 10) (a0::a1::a2::a3::a4::a5::a6::a7::a8::a9::a10::r) a10:=⟨rfl⟩
instance:ST (some 10) (a0::a1::a2::a3::a4::a5::a6::a7::a8::a9::a10::r) v (a0::a1::a2::a3::a4::a5::a6::a7::a8::a9::v::r):=⟨rfl⟩
instance:GT (.tmp 11) (a0::a1::a2::a3::a4::a5::a6::a7::a8::a9::a10::a11::r) a11:=⟨rfl⟩
instance:ST (some 11) (a0::a1::a2::a3::a4::a5::a6::a7::a8::a9::a10::a11::r) v (a0::a1::a2::a3::a4::a5::a6::a7::a8::a9::a10::v::r):=⟨rfl⟩
instance:GT (.tmp 12) (a0::a1::a2::a3::a4::a5::a6::a7::a8::a9::a10::a11::a12::r) a12:=⟨rfl⟩
instance:ST (some 12) (a0::a1::a2::a3::a4::a5::a6::a7::a8::a9::a10::a11::a12::r) v (a0::a1::a2::a3::a4::a5::a6::a7::a8::a9::a10::a11::v::r):=⟨rfl⟩
instance:GT (.tmp 13) (a0::a1::a2::a3::a4::a5::a6::a7::a8::a9::a10::a11::a12::a13::r) a13:=⟨rfl⟩
instance:ST (some 13) (a0::a1::a2::a3::a4::a5::a6::a7::a8::a9::a10::a11::a12::a13::r) v (a0::a1::a2::a3::a4::a5::a6::a7::a8::a9::a10::a11::a12::v::r):=⟨rfl⟩
instance:GT (.tmp 14) (a0::a1::a2::a3::a4::a5::a6::a7::a8::a9::a10::a11::a12::a13::a14::r) a14:=⟨rfl⟩
instance:ST (some 14) (a0::a1::a2::a3::a4::a5::a6::a7::a8::a9::a10::a11::a12::a13::a14::r) v (a0::a1::a2::a3::a4::a5::a6::a7::a8::a9::a10::a11::a12::a13::v::r):=⟨rfl⟩
instance:GT (.tmp 15) (a0::a1::a2::a3::a4::a5::a6::a7::a8::a9::a10::a11::a12::a13::a14::a15::r) a15:=⟨rfl⟩
instance:ST (some 15) (a0::a1::a2::a3::a4::a5::a6::a7::a8::a9::a10::a11::a12::a13::a14::a15::r) v (a0::a1::a2::a3::a4::a5::a6::a7::a8::a9::a10::a11::a12::a13::a14::v::r):=⟨rfl⟩
instance [g:GT (.tmp n) r v]:GT (.tmp (n+16)) (a0::a1::a2::a3::a4::a5::a6::a7::a8::a9::a10::a11::a12::a13::a14::a15::r) v:=⟨by have:=g.out;simpa [yF] using this⟩
instance [g:ST (some n) r v r']:ST (some (n+16)) (a0::a1::a2::a3::a4::a5::a6::a7::a8::a9::a10::a11::a12::a13::a14::a15::r) v (a0::a1::a2::a3::a4::a5::a6::a7::a8::a9::a10::a11::a12::a13::a14::a15::r'):=⟨by have:=g.out;simpa [vZ] using this⟩
instance {env:List AV} {k:IntKind} {n:Int}:GT (.const (.int k n)) env (.int k n):=⟨rfl⟩
instance {env:List AV} {b:Bool}:GT (.const (.bool b)) env (.bool b):=⟨rfl⟩
class LenB (l:List UInt8) (k:Nat):Prop where
 out:l.length<=k
instance {k:Nat}:LenB [] k:=⟨tK _⟩
instance {a:UInt8} {l:List UInt8} {k:Nat} [i:LenB l k]:LenB (a::l) (k+1):=⟨p5 i.out⟩
instance {env:List AV} {l:List UInt8} [i:LenB l 64]:GT (.const (.string ⟨List.toArray l⟩)) env (.str l):=⟨by
 have h:(ByteArray.mk (List.toArray l)).size<=maxLen:=uU (by simpa [ByteArray.size] using i.out) (by decide);simp [yF,cvo,h]⟩
instance {env:List AV}:GT (.const (.pointer none)) env .nilp:=⟨rfl⟩
instance {env:List AV}:GT (.const (.map none)) env .nilm:=⟨rfl⟩
instance {env:List AV}:GT (.const .nilFunc) env .nilf:=⟨rfl⟩
instance {env:List AV}:GT (.const .nilIface) env .nili:=⟨rfl⟩
instance {env:List AV}:GT (.const (.slice none 0 0)) env .nilsl:=⟨rfl⟩
instance {env:List AV} {g:Nat}:GT (.global g) env (.glob g):=⟨rfl⟩
instance {env:List AV} {f:FuncId}:GT (.func f) env (.fn (.func f) [] []):=⟨rfl⟩
end
instance {b}:TY (.bool b) (.bool b):=⟨rfl⟩
instance {k n}:TY (.int k n) (.int k n):=⟨rfl⟩
instance {s}:TY (.str s) (.str s):=⟨rfl⟩
instance {i o}:TY (.ptr i o) (.ptr i o):=⟨rfl⟩
instance {c}:TY (.fptr c) (.fptr c):=⟨rfl⟩
instance {k e}:TY (.sl k e) (.sl k e):=⟨rfl⟩
instance {q k e}:TY (.osl q k e) (.osl q k e):=⟨rfl⟩
instance {a b c d}:TY (.msl a b c d) (.msl a b c d):=⟨rfl⟩
instance {a b c d}:TY (.rsl a b c d) (.rsl a b c d):=⟨rfl⟩
instance {a b c d e}:TY (.rptr a b c d e) (.rptr a b c d e):=⟨rfl⟩
instance {a b c d e}:TY (.rsuf a b c d e) (.rsuf a b c d e):=⟨rfl⟩
instance {i}:TY (.map i) (.map i):=⟨rfl⟩
instance {f x y}:TY (.fn f x y) (.fn f x y):=⟨rfl⟩
instance {t v}:TY (.iface t v) (.iface t v):=⟨rfl⟩
instance {c}:TY (.agg c) (.agg c):=⟨rfl⟩
instance {c}:TY (.tup c) (.tup c):=⟨rfl⟩
instance {g}:TY (.glob g) (.glob g):=⟨rfl⟩
instance {i}:TY (.yld i) (.yld i):=⟨rfl⟩
instance:TY .nilp .nilp:=⟨rfl⟩
instance:TY .nilm .nilm:=⟨rfl⟩
instance:TY .nilf .nilf:=⟨rfl⟩
instance:TY .nili .nili:=⟨rfl⟩
instance {f x y}:TY (AV.zcl (.fn f x y)) (.fn f x y):=⟨rfl⟩
instance {v:AV} {b:Bool}:TY (withOk true v b) (.tup [v,.bool b]):=⟨by simp [withOk,tyo]⟩
section
variable {α:Type}
class NTH (n:Nat) (l:List α) (v:outParam α):Prop where
 out:l[n]?=some v
instance {a:α} {l:List α}:NTH 0 (a::l) a:=⟨rfl⟩
instance {n:Nat} {a v:α} {l:List α} [i:NTH n l v]:NTH (n+1) (a::l) v:=⟨by simpa using i.out⟩
class DROP (n:Nat) (l:List α) (r:outParam (List α)):Prop where
 out:l.drop n=r
 le:n<=l.length
instance {l:List α}:DROP 0 l l:=⟨rfl,tK _⟩
instance {n:Nat} {a:α} {l r:List α} [i:DROP n l r]:DROP (n+1) (a::l) r:=⟨by simpa using i.out,p5 i.le⟩
class TAKE (n:Nat) (l:List α) (r:outParam (List α)):Prop where
 out:l.take n=r/\n<=l.length
instance {l:List α}:TAKE 0 l []:=⟨by simp⟩
instance {n:Nat} {a:α} {l r:List α} [i:TAKE n l r]:TAKE (n+1) (a::l) (a::r):=⟨by have:=i.out;simp [this.1,this.2]⟩
end
class SPL (n:Nat) (vs l:List AV) (r:outParam (List AV)):Prop where
 out:yX l n vs=r/\n+vs.length<=l.length
class APP (l r:List Blk) (s:outParam (List Blk)):Prop where
 out:l++r=s
instance {r:List Blk}:APP [] r r:=⟨rfl⟩
instance {a:Blk} {l r s:List Blk} [i:APP l r s]:APP (a::l) r (a::s):=⟨by rw [<- i.out];rfl⟩
class SETL (l:List Blk) (n:Nat) (b:Blk) (s:outParam (List Blk)):Prop where
 out:l.set n b=s
instance {a b:Blk} {l:List Blk}:SETL (a::l) 0 b (b::l):=⟨rfl⟩
instance {a b:Blk} {l s:List Blk} {n:Nat} [i:SETL l n b s]:SETL (a::l) (n+1) b (a::s):=⟨by rw [<- i.out];rfl⟩
class NRM (l:List Blk) (s:outParam (List Blk)):Prop where
 out:l=s
instance:NRM [] []:=⟨rfl⟩
instance {a:Blk} {l:List Blk}:NRM (a::l) (a::l):=⟨rfl⟩
instance {l r o s:List Blk} [i:NRM l o] [j:APP o r s]:NRM (l++r) s:=⟨by rw [i.out,j.out]⟩
instance {l o s:List Blk} {n:Nat} {b:Blk} [i:NRM l o] [j:SETL o n b s]:NRM (l.set n b) s:=⟨by rw [i.out,j.out]⟩
class FA (off:Nat) (a:AV) (v:outParam AV):Prop where
 out:qz off a=some v
instance {off i:Nat}:FA off (.ptr i 0) (.ptr i off):=⟨by simp [qz]⟩
instance (priority:=low) {off i o:Nat}:FA off (.ptr i o) (.ptr i (o+off)):=⟨rfl⟩
instance {off:Nat} {cs r:List AV} [i:DROP off cs r]:FA off (.fptr cs) (.fptr r):=⟨by simp [qz,i.out]⟩
class BI (op:BinOp) (t:TypeId) (x y:AV) (v:outParam AV):Prop where
 out:∀P,yH P op t x y=some v
section
variable {t:TypeId} {k:IntKind} {a b:Int} {x y:List UInt8}
instance:BI .add t (.int k a) (.int k b) (.int k (k.wrap (a+b))):=⟨λP=>by simp [yH,xk]⟩
instance:BI .sub t (.int k a) (.int k b) (.int k (k.wrap (a - b))):=⟨λP=>by simp [yH,xk]⟩
instance:BI .mul t (.int k a) (.int k b) (.int k (k.wrap (a * b))):=⟨λP=>by simp [yH,xk]⟩
instance:BI .and t (.int k a) (.int k b) (.int k (k.wrap ((BitVec.ofInt k.bits a &&& BitVec.ofInt k.bits b).toNat))):=⟨λP=>by simp [yH,xk]⟩
instance:BI .or t (.int k a) (.int k b) (.int k (k.wrap ((BitVec.ofInt k.bits a ||| BitVec.ofInt k.bits b).toNat))):=⟨λP=>by simp [yH,xk]⟩
instance:BI .andNot t (.int k a) (.int k b) (.int k (k.wrap ((BitVec.ofInt k.bits a &&& ~~~(BitVec.ofInt k.bits b)).toNat))):=⟨λP=>by simp [yH,xk]⟩
instance:BI .xor t (.int k a) (.int k b) (.int k (k.wrap ((BitVec.ofInt k.bits a ^^^ BitVec.ofInt k.bits b).toNat))):=⟨λP=>by simp [yH,xk]⟩
instance:BI .eql t (.int k a) (.int k b) (.bool (a==b)):=⟨λP=>by simp [yH,xk]⟩
instance:BI .neq t (.int k a) (.int k b) (.bool (a != b)):=⟨λP=>by simp [yH,xk]⟩
instance:BI .lss t (.int k a) (.int k b) (.bool (decide (a < b))):=⟨λP=>by simp [yH,xk]⟩
instance:BI .leq t (.int k a) (.int k b) (.bool (decide (a<=b))):=⟨λP=>by simp [yH,xk]⟩
instance:BI .gtr t (.int k a) (.int k b) (.bool (decide (a > b))):=⟨λP=>by simp [yH,xk]⟩
instance:BI .geq t (.int k a) (.int k b) (.bool (decide (a >= b))):=⟨λP=>by simp [yH,xk]⟩
instance:BI .eql t (.str x) (.str y) (.bool (x==y)):=⟨λP=>by simp [yH,aStr]⟩
instance:BI .neq t (.str x) (.str y) (.bool !(x==y)):=⟨λP=>by simp [yH,aStr]⟩
instance:BI .lss t (.str x) (.str y) (.bool (Op.bytesLess x y)):=⟨λP=>by simp [yH,aStr]⟩
instance:BI .leq t (.str x) (.str y) (.bool (Op.bytesLess x y || x==y)):=⟨λP=>by simp [yH,aStr]⟩
instance:BI .gtr t (.str x) (.str y) (.bool !(Op.bytesLess x y || x==y)):=⟨λP=>by simp [yH,aStr]⟩
instance:BI .geq t (.str x) (.str y) (.bool !(Op.bytesLess x y)):=⟨λP=>by simp [yH,aStr]⟩
instance {o:IntKind}:BI .shr t (.int k a) (.int o 1) (.int k (a.fdiv (2 ^ min (1:Int).toNat k.bits))):=⟨λP=>by simp [yH,xk]⟩
instance {o:IntKind}:BI .shr t (.int k a) (.int o 2) (.int k (a.fdiv (2 ^ min (2:Int).toNat k.bits))):=⟨λP=>by simp [yH,xk]⟩
instance {o:IntKind}:BI .shr t (.int k a) (.int o 3) (.int k (a.fdiv (2 ^ min (3:Int).toNat k.bits))):=⟨λP=>by simp [yH,xk]⟩
instance {o:IntKind}:BI .shr t (.int k a) (.int o 4) (.int k (a.fdiv (2 ^ min (4:Int).toNat k.bits))):=⟨λP=>by simp [yH,xk]⟩
instance {o:IntKind}:BI .shr t (.int k a) (.int o 5) (.int k (a.fdiv (2 ^ min (5:Int).toNat k.bits))):=⟨λP=>by simp [yH,xk]⟩
instance {o:IntKind}:BI .shr t (.int k a) (.int o 6) (.int k (a.fdiv (2 ^ min (6:Int).toNat k.bits))):=⟨λP=>by simp [yH,xk]⟩
instance {o:IntKind}:BI .shr t (.int k a) (.int o 7) (.int k (a.fdiv (2 ^ min (7:Int).toNat k.bits))):=⟨λP=>by simp [yH,xk]⟩
instance {o:IntKind}:BI .shr t (.int k a) (.int o 8) (.int k (a.fdiv (2 ^ min (8:Int).toNat k.bits))):=⟨λP=>by simp [yH,xk]⟩
instance {o:IntKind}:BI .shr t (.int k a) (.int o 16) (.int k (a.fdiv (2 ^ min (16:Int).toNat k.bits))):=⟨λP=>by simp [yH,xk]⟩
instance {o:IntKind}:BI .shr t (.int k a) (.int o 24) (.int k (a.fdiv (2 ^ min (24:Int).toNat k.bits))):=⟨λP=>by simp [yH,xk]⟩
instance {o:IntKind}:BI .shr t (.int k a) (.int o 32) (.int k (a.fdiv (2 ^ min (32:Int).toNat k.bits))):=⟨λP=>by simp [yH,xk]⟩
instance {o:IntKind}:BI .shr t (.int k a) (.int o 40) (.int k (a.fdiv (2 ^ min (40:Int).toNat k.bits))):=⟨λP=>by simp [yH,xk]⟩
instance {o:IntKind}:BI .shr t (.int k a) (.int o 48) (.int k (a.fdiv (2 ^ min (48:Int).toNat k.bits))):=⟨λP=>by simp [yH,xk]⟩
instance {o:IntKind}:BI .shr t (.int k a) (.int o 56) (.int k (a.fdiv (2 ^ min (56:Int).toNat k.bits))):=⟨λP=>by simp [yH,xk]⟩
instance {o:IntKind}:BI .shr t (.int k a) (.int o 63) (.int k (a.fdiv (2 ^ min (63:Int).toNat k.bits))):=⟨λP=>by simp [yH,xk]⟩
instance {o:IntKind}:BI .shl t (.int k a) (.int o 1) (.int k (k.wrap (a * 2 ^ min (1:Int).toNat k.bits))):=⟨λP=>by simp [yH,xk]⟩
instance {o:IntKind}:BI .shl t (.int k a) (.int o 2) (.int k (k.wrap (a * 2 ^ min (2:Int).toNat k.bits))):=⟨λP=>by simp [yH,xk]⟩
instance {o:IntKind}:BI .shl t (.int k a) (.int o 3) (.int k (k.wrap (a * 2 ^ min (3:Int).toNat k.bits))):=⟨λP=>by simp [yH,xk]⟩
instance {o:IntKind}:BI .shl t (.int k a) (.int o 4) (.int k (k.wrap (a * 2 ^ min (4:Int).toNat k.bits))):=⟨λP=>by simp [yH,xk]⟩
instance {o:IntKind}:BI .shl t (.int k a) (.int o 7) (.int k (k.wrap (a * 2 ^ min (7:Int).toNat k.bits))):=⟨λP=>by simp [yH,xk]⟩
instance {o:IntKind}:BI .shl t (.int k a) (.int o 8) (.int k (k.wrap (a * 2 ^ min (8:Int).toNat k.bits))):=⟨λP=>by simp [yH,xk]⟩
instance {o:IntKind}:BI .shl t (.int k a) (.int o 16) (.int k (k.wrap (a * 2 ^ min (16:Int).toNat k.bits))):=⟨λP=>by simp [yH,xk]⟩
instance {o:IntKind}:BI .shl t (.int k a) (.int o 32) (.int k (k.wrap (a * 2 ^ min (32:Int).toNat k.bits))):=⟨λP=>by simp [yH,xk]⟩
instance:BI .quo t (.int k a) (.int k 2) (.int k (k.wrap (a.tdiv 2))):=⟨λP=>by simp [yH,xk]⟩
instance:BI .rem t (.int k a) (.int k 2) (.int k (a.tmod 2)):=⟨λP=>by simp [yH,xk]⟩
instance:BI .quo t (.int k a) (.int k 3) (.int k (k.wrap (a.tdiv 3))):=⟨λP=>by simp [yH,xk]⟩
instance:BI .rem t (.int k a) (.int k 3) (.int k (a.tmod 3)):=⟨λP=>by simp [yH,xk]⟩
instance:BI .quo t (.int k a) (.int k 4) (.int k (k.wrap (a.tdiv 4))):=⟨λP=>by simp [yH,xk]⟩
instance:BI .rem t (.int k a) (.int k 4) (.int k (a.tmod 4)):=⟨λP=>by simp [yH,xk]⟩
instance:BI .quo t (.int k a) (.int k 7) (.int k (k.wrap (a.tdiv 7))):=⟨λP=>by simp [yH,xk]⟩
instance:BI .rem t (.int k a) (.int k 7) (.int k (a.tmod 7)):=⟨λP=>by simp [yH,xk]⟩
instance:BI .quo t (.int k a) (.int k 8) (.int k (k.wrap (a.tdiv 8))):=⟨λP=>by simp [yH,xk]⟩
instance:BI .rem t (.int k a) (.int k 8) (.int k (a.tmod 8)):=⟨λP=>by simp [yH,xk]⟩
instance:BI .quo t (.int k a) (.int k 10) (.int k (k.wrap (a.tdiv 10))):=⟨λP=>by simp [yH,xk]⟩
instance:BI .rem t (.int k a) (.int k 10) (.int k (a.tmod 10)):=⟨λP=>by simp [yH,xk]⟩
instance:BI .quo t (.int k a) (.int k 16) (.int k (k.wrap (a.tdiv 16))):=⟨λP=>by simp [yH,xk]⟩
instance:BI .rem t (.int k a) (.int k 16) (.int k (a.tmod 16)):=⟨λP=>by simp [yH,xk]⟩
instance:BI .quo t (.int k a) (.int k 32) (.int k (k.wrap (a.tdiv 32))):=⟨λP=>by simp [yH,xk]⟩
instance:BI .rem t (.int k a) (.int k 32) (.int k (a.tmod 32)):=⟨λP=>by simp [yH,xk]⟩
instance:BI .quo t (.int k a) (.int k 64) (.int k (k.wrap (a.tdiv 64))):=⟨λP=>by simp [yH,xk]⟩
instance:BI .rem t (.int k a) (.int k 64) (.int k (a.tmod 64)):=⟨λP=>by simp [yH,xk]⟩
instance:BI .quo t (.int k a) (.int k 100) (.int k (k.wrap (a.tdiv 100))):=⟨λP=>by simp [yH,xk]⟩
instance:BI .rem t (.int k a) (.int k 100) (.int k (a.tmod 100)):=⟨λP=>by simp [yH,xk]⟩
instance:BI .quo t (.int k a) (.int k 128) (.int k (k.wrap (a.tdiv 128))):=⟨λP=>by simp [yH,xk]⟩
instance:BI .rem t (.int k a) (.int k 128) (.int k (a.tmod 128)):=⟨λP=>by simp [yH,xk]⟩
instance:BI .quo t (.int k a) (.int k 256) (.int k (k.wrap (a.tdiv 256))):=⟨λP=>by simp [yH,xk]⟩
instance:BI .rem t (.int k a) (.int k 256) (.int k (a.tmod 256)):=⟨λP=>by simp [yH,xk]⟩
end
class UN (op:UnOp) (x:AV) (v:outParam AV):Prop where
 out:aUn op x=some v
instance {b:Bool}:UN .not (.bool b) (.bool !b):=⟨rfl⟩
class NA (d:TypeDesc):Prop where
 out:yh d=false
instance {k:IntKind}:NA (.int k):=⟨rfl⟩
instance:NA .string:=⟨rfl⟩
instance:NA .bool:=⟨rfl⟩
instance {e:TypeId}:NA (.slice e):=⟨rfl⟩
instance {e:TypeId}:NA (.pointer e):=⟨rfl⟩
instance {a b:TypeId}:NA (.map a b):=⟨rfl⟩
class TA (P:Program) (t:TypeId) (k:outParam Nat):Prop where
 out:∃d,Ty P t d k/\yh d=true
class SUC (k:Nat):Prop where
 out:∃j,k=j+1
instance {n:Nat}:SUC (n+1):=⟨⟨n,rfl⟩⟩
class IMP (b b':Bool):Prop where
 out:b=true->b'=true
instance {b:Bool}:IMP b b:=⟨id⟩
instance {a b c:Bool} [i:IMP a b]:IMP (a&&c) b:=⟨λh=>i.out (and_l h)⟩
class GGX (b:Bool) (w:AV) (v:outParam AV):Prop where
 out:b=true->w=v
instance {b o:Bool} {v:AV} [i:IMP b o]:GGX b (gv o v) v:=⟨λs=>by rw [i.out s,gv_true]⟩
instance (priority:=low) {b:Bool} {w:AV}:GGX b w w:=⟨λ_=>rfl⟩
class GG (x:Operand) (env:List AV) (b:Bool) (v:outParam AV):Prop where
 out:b=true->yF env x=some v
instance {x:Operand} {env:List AV} {b:Bool} {w v:AV} [i:GT x env w] [j:GGX b w v]:GG x env b v:=⟨λo=>by rw [<- j.out o];exact i.out⟩
class TYP (P:Program) (t:TypeId) (v:AV) (v':outParam AV):Prop where
 out:tyfix P t v=v'
instance {P:Program} {t:TypeId} {v v':AV} [i:TY v v']:TYP P t v v':=⟨za i.out⟩
instance {P:Program} {t e:TypeId} {k:Nat} [i:El P t e k]:TYP P t .nilsl (.osl none k []):=⟨ty_nil i⟩
class IMT (b t w b':Bool):Prop where
 out:b=true->t=w->b'=true
instance {b t w:Bool}:IMT b t w (t==w):=⟨λ_ h=>by rw [h];cases w <;> rfl⟩
instance {b o t w:Bool} [i:IMP b o]:IMT b t w (o&&(t==w)):=⟨λh e=>by rw [i.out h,e];cases w <;> rfl⟩
class PK' (b t:Bool) (x y:AV) (v:outParam AV):Prop where
 out:b=true->(if t then x else y)=v
section
variable {b t q r c c':Bool} {k:IntKind} {m n:Int}
instance:PK' b t (.bool q) (.bool r) (.bool (if t then q else r)):=⟨λ_=>pick_bb⟩
instance [i:IMT b t true c]:PK' b t (gv c (.bool q)) (.bool r) (.bool (if t then q else r)):=⟨λh=>pick_g1 (i.out h)⟩
instance [i:IMT b t false c]:PK' b t (.bool r) (gv c (.bool q)) (.bool (if t then r else q)):=⟨λh=>pick_g2 (i.out h)⟩
instance [i:IMT b t true c] [j:IMT b t false c']:PK' b t (gv c (.bool q)) (gv c' (.bool r)) (.bool (if t then q else r)):=⟨λh=>pick_g3 (i.out h) (j.out h)⟩
instance (priority:=high) [i:IMT b t true c]:PK' b t (gv c (.bool q)) (.bool false) (.bool (t&&q)):=⟨λh=>pick_and (i.out h)⟩
instance (priority:=high) [i:IMT b t false c]:PK' b t (.bool true) (gv c (.bool q)) (.bool (t || q)):=⟨λh=>pick_or (i.out h)⟩
instance:PK' b t (.int k m) (.int k n) (.int k (if t then m else n)):=⟨λ_=>pick_ii⟩
instance [i:IMT b t true c]:PK' b t (gv c (.int k m)) (.int k n) (.int k (if t then m else n)):=⟨λh=>pick_ig1 (i.out h)⟩
instance [i:IMT b t false c]:PK' b t (.int k n) (gv c (.int k m)) (.int k (if t then n else m)):=⟨λh=>pick_ig2 (i.out h)⟩
end
class ONE (P:Program) (o:Oper) (env:List AV) (h:AH) (q:Bool) (v:outParam AV):Prop where
 out:q=true->zw P o env h=.ok v h
section
variable {P:Program} {env:List AV} {h h0:AH} {r':List Blk} {d:Option Tmp} {t t' u:TypeId} {p:String} {a:Array Edge} {x y z:Operand} {v v' w w' b:AV} {id i j n k k' off f:Nat} {cs cs' r:List AV} {L L':List Blk} {M:List Nat} {td:TypeDesc} {gd:Option (Nat×Bool)} {q tt:Bool}
instance [o:GG x env q v] [s:TYP P t v v']:ONE P ⟨d,.move x,t,p,a,gd⟩ env h q v':=⟨λC=>s_move rfl (o.out C) s.out⟩
instance [o:GG x env q v] [s:TYP P t v v']:ONE P ⟨d,.assign x,t,p,a,gd⟩ env h q v':=⟨λC=>s_assign rfl (o.out C) s.out⟩
instance [D:GG x env q (.bool tt)] [E:GT y env v] [s:GT z env w] [C:PK' q tt v w b]:ONE P ⟨d,.pick x y z,t,p,a,gd⟩ env h q b:=⟨λo=>s_pick rfl (D.out o) E.out s.out (C.out o)⟩
instance [i0:Fo P t f off u k] [s:SUC k] [C:GG x env q v] [D:FA off v v']:ONE P ⟨d,.fieldAddr t x f,t',p,a,gd⟩ env h q v':=⟨λo=>by
 obtain ⟨j,rfl⟩:=s.out;exact s_fieldAddr rfl i0 (C.out o) D.out⟩
instance {op:BinOp} [C:GG x env q v] [D:GG y env q v'] [s:BI op t v v' w]:ONE P ⟨d,.binOp op t x y u,t',p,a,gd⟩ env h q w:=⟨λo=>vD rfl (C.out o) (D.out o) (s.out P)⟩
instance {op:UnOp} [o:GG x env q v] [C:UN op v w]:ONE P ⟨d,.unOp op t x,t',p,a,gd⟩ env h q w:=⟨λs=>s_un rfl (o.out s) C.out⟩
instance [o:GG x env q (.tup cs)] [C:NTH n cs v] [D:TYP P t v v']:ONE P ⟨d,.extract x n,t,p,a,gd⟩ env h q v':=⟨λs=>s_extract rfl (o.out s) C.out D.out⟩
instance [o:GG x env q (.fptr cs)]:ONE P ⟨d,.nilCheck x,t,p,a,gd⟩ env h q (.fptr cs):=⟨λs=>s_nilCheck rfl (o.out s) rfl⟩
instance [o:GG x env q (.ptr i j)]:ONE P ⟨d,.nilCheck x,t,p,a,gd⟩ env h q (.ptr i j):=⟨λs=>s_nilCheck rfl (o.out s) rfl⟩
instance [i0:Ty P t td k] [C:NA td] [E:GG x env q (.ptr (h0.blks.length+j) off)] [I:NRM L L'] [H:NTH j L' (.cells cs)] [o:NTH off cs v] [s:TYP P t v v']:ONE P ⟨d,.load t x,t',p,a,gd⟩ env (h0.ext L M) q v':=⟨λD=>xS rfl i0 (E.out D) (by rw [I.out];exact H.out) (by rw [C.out];exact yv o.out) s.out⟩
instance [i0:Ty P t td k] [C:NA td] [E:GG x env q (.fptr cs)] [o:NTH 0 cs v] [s:TYP P t v v']:ONE P ⟨d,.load t x,t',p,a,gd⟩ env h q v':=⟨λD=>f_load rfl i0 (E.out D) (by rw [C.out];exact yv o.out) s.out⟩
instance [i0:TA P t k] [J:GG x env q (.ptr (h0.blks.length+j) off)] [O:NRM L L'] [K:NTH j L' (.cells cs)] [s:DROP off cs cs'] [E:TAKE k cs' r]:ONE P ⟨d,.load t x,t',p,a,gd⟩ env (h0.ext L M) q (.agg r):=⟨λH=>by
 obtain ⟨td,I,D⟩:=i0.out;have C:=s.out;have o:=E.out;refine xS rfl I (J.out H) (by rw [O.out];exact K.out) ?_ (za (v:=.agg r) rfl);rw [D];refine ldC_ag (rg ?_) (by rw [C,o.1]);have:=o.2;rw [<- C,sB] at this;have:=s.le;omega⟩
instance [i0:TA P t k] [H:GG x env q (.fptr cs)] [C:TAKE k cs r]:ONE P ⟨d,.load t x,t',p,a,gd⟩ env h q (.agg r):=⟨λD=>by
 obtain ⟨td,E,s⟩:=i0.out;have o:=C.out;refine f_load rfl E (H.out D) ?_ (za (v:=.agg r) rfl);rw [s];exact ldC_ag (rg (by have:=o.2;omega)) (by rw [sq,o.1])⟩
class CEL (v:AV) (cs:outParam (List AV)):Prop where
 out:v.cells?=some cs
instance:CEL (.agg cs) cs:=⟨rfl⟩
class LENB (L:List Blk) (n:outParam Nat):Prop where
 out:L.length=n
instance:LENB [] 0:=⟨rfl⟩
instance {b0:Blk}:LENB [b0] 1:=⟨rfl⟩
instance {b0 o:Blk}:LENB [b0,o] 2:=⟨rfl⟩
instance {b0 o s:Blk}:LENB [b0,o,s] 3:=⟨rfl⟩
instance {b0 o s C:Blk}:LENB [b0,o,s,C] 4:=⟨rfl⟩
instance {b0 o s C D:Blk}:LENB [b0,o,s,C,D] 5:=⟨rfl⟩
instance {b0 o s D E C:Blk}:LENB [b0,o,s,D,E,C] 6:=⟨rfl⟩
instance {b0 s C E H D o:Blk}:LENB [b0,s,C,E,H,D,o] 7:=⟨rfl⟩
instance {b0 s C H I E o D:Blk}:LENB [b0,s,C,H,I,E,o,D] 8:=⟨rfl⟩
instance {b0 s C I J H o D E:Blk}:LENB [b0,s,C,I,J,H,o,D,E] 9:=⟨rfl⟩
instance {b0 s C I K H o D E J:Blk}:LENB [b0,s,C,I,K,H,o,D,E,J] 10:=⟨rfl⟩
instance {b0 C D J O I s E H K o:Blk}:LENB [b0,C,D,J,O,I,s,E,H,K,o] 11:=⟨rfl⟩
instance {b0 D E K R J C H I O o s:Blk}:LENB [b0,D,E,K,R,J,C,H,I,O,o,s] 12:=⟨rfl⟩
instance {b0 E H O S K D I J R o C s:Blk}:LENB [b0,E,H,O,S,K,D,I,J,R,o,C,s] 13:=⟨rfl⟩
instance {b0 H I R T O E J K S o D C s:Blk}:LENB [b0,H,I,R,T,O,E,J,K,S,o,D,C,s] 14:=⟨rfl⟩
instance {b0 I J S U R H K O T o E C s D:Blk}:LENB [b0,I,J,S,U,R,H,K,O,T,o,E,C,s,D] 15:=⟨rfl⟩
instance {b0 J K T V S I O R U s H D C E o:Blk}:LENB [b0,J,K,T,V,S,I,O,R,U,s,H,D,C,E,o] 16:=⟨rfl⟩
instance {b0 K O U W T J R S V s I D C H o E:Blk}:LENB [b0,K,O,U,W,T,J,R,S,V,s,I,D,C,H,o,E] 17:=⟨rfl⟩
instance {b0 O R V X U K S T W s J D C I o H E:Blk}:LENB [b0,O,R,V,X,U,K,S,T,W,s,J,D,C,I,o,H,E] 18:=⟨rfl⟩
instance {b0 X S U W R O T Y V C K I D J s o H E:Blk}:LENB [b0,X,S,U,W,R,O,T,Y,V,C,K,I,D,J,s,o,H,E] 19:=⟨rfl⟩
instance {b}:CEL (.bool b) [.bool b]:=⟨rfl⟩
instance {k n}:CEL (.int k n) [.int k n]:=⟨rfl⟩
instance {s}:CEL (.str s) [.str s]:=⟨rfl⟩
instance {i o}:CEL (.ptr i o) [.ptr i o]:=⟨rfl⟩
instance {c}:CEL (.fptr c) [.fptr c]:=⟨rfl⟩
instance {k e}:CEL (.sl k e) [.sl k e]:=⟨rfl⟩
instance {q k e}:CEL (.osl q k e) [.osl q k e]:=⟨rfl⟩
instance {a b c d}:CEL (.msl a b c d) [.msl a b c d]:=⟨rfl⟩
instance {a b c d}:CEL (.rsl a b c d) [.rsl a b c d]:=⟨rfl⟩
instance {a b c d e}:CEL (.rptr a b c d e) [.rptr a b c d e]:=⟨rfl⟩
instance {a b c d e}:CEL (.rsuf a b c d e) [.rsuf a b c d e]:=⟨rfl⟩
instance {i}:CEL (.map i) [.map i]:=⟨rfl⟩
instance {f x y}:CEL (.fn f x y) [.fn f x y]:=⟨rfl⟩
instance {t v}:CEL (.iface t v) [.iface t v]:=⟨rfl⟩
instance {g}:CEL (.glob g) [.glob g]:=⟨rfl⟩
instance {i}:CEL (.yld i) [.yld i]:=⟨rfl⟩
class LENV (cs:List AV) (n:Nat):Prop where
 out:cs.length=n
instance:LENV [] 0:=⟨rfl⟩
instance [i:LENV cs n]:LENV (v::cs) (n+1):=⟨by simp [i.out]⟩
class SAME (cs r:List AV):Prop where
 out:cs.length=r.length
instance:SAME [] []:=⟨rfl⟩
instance [i:SAME cs r]:SAME (v::cs) (w::r):=⟨by simp [i.out]⟩
instance (priority:=high) [i:SAME cs r]:SPL 0 cs r cs:=⟨by simp [yX,i.out]⟩
instance:SPL 0 [] r r:=⟨by simp [yX]⟩
instance [i:SPL 0 cs r cs']:SPL 0 (v::cs) (w::r) (v::cs'):=⟨by have:=i.out;simp only [yX,pH,u6,uZ] at this ⊢;simp only [uk,List.drop_succ_cons,tS,this.1,ou];omega⟩
instance [i:SPL n cs r cs']:SPL (n+1) cs (w::r) (w::cs'):=⟨by have:=i.out;simp only [yX] at this ⊢;rw [show n+1+cs.length=n+cs.length+1 by omega];simp only [sS,List.drop_succ_cons,tS,this.1,uk,ou];omega⟩
class ZE (P:Program) (t:TypeId) (cs:outParam (List AV)):Prop where
 out:xD P t=some cs
class EFF (P:Program) (o:Oper) (env:List AV) (h:AH) (v:outParam AV) (h':outParam AH):Prop where
 out:zw P o env h=.ok v h'
instance [i0:ZE P t cs] [C:NRM L L'] [o:LENB L' n] [s:APP L' [.cells cs] r']:EFF P ⟨d,.alloc t,t',p,a,gd⟩ env (h0.ext L M) (.ptr (h0.blks.length+n) 0) (h0.ext r' M):=⟨by rw [C.out,<- s.out];exact e_alloc rfl i0.out o.out⟩
instance [i0:GT x env v] [o:TYP P t v v'] [s:CEL v' cs] [E:NRM L L'] [C:LENB L' n] [D:APP L' [.cells cs] r']:EFF P ⟨d,.box t x,t',p,a,gd⟩ env (h0.ext L M) (.ptr (h0.blks.length+n) 0) (h0.ext r' M):=⟨by rw [E.out,<- D.out];exact e_box rfl i0.out o.out s.out C.out⟩
instance [i0:Ty P t td k] [H:GT x env (.ptr (h0.blks.length+j) off)] [I:GT y env v] [D:TYP P t v v'] [E:CEL v' cs] [o:LENV cs k] [J:NRM L L'] [C:NTH j L' (.cells r)] [s:SPL off cs r cs'] [i9:SETL L' j (.cells cs') r'] :
  EFF P ⟨d,.store t x y,t',p,a,gd⟩ env (h0.ext L M) aundef (h0.ext r' M):=⟨by
 rw [J.out,<- i9.out];exact yg rfl i0 H.out I.out D.out E.out o.out C.out (rg (by have:=s.out.2;rw [o.out] at this;exact this)) s.out.1⟩
instance [i0:TA P t k] [E:GT x env (.ptr (h0.blks.length+j) off)] [H:GT y env (.agg cs)] [o:LENV cs k] [I:NRM L L'] [C:NTH j L' (.cells r)] [s:SPL off cs r cs'] [i9:SETL L' j (.cells cs') r'] :
  EFF P ⟨d,.store t x y,t',p,a,gd⟩ env (h0.ext L M) aundef (h0.ext r' M):=⟨by
 obtain ⟨td,D,J⟩:=i0.out;rw [I.out,<- i9.out];exact yg rfl D E.out H.out (za (v:=.agg cs) rfl) rfl o.out C.out (rg (by have:=s.out.2;rw [o.out] at this;exact this)) s.out.1⟩
end
class DST (l:List Oper) (j:Nat) (d:outParam Nat):Prop where
 out:(l[j]?).bind (·.dst)=some d
instance {d:Nat} {o:Op} {t:TypeId} {p:String} {a:Array Edge} {g:Option (Nat×Bool)} {l:List Oper}:DST (⟨some d,o,t,p,a,g⟩::l) 0 d:=⟨rfl⟩
instance {o:Oper} {l:List Oper} {j d:Nat} [i:DST l j d]:DST (o::l) (j+1) d:=⟨by simpa using i.out⟩
class GB (w:AV) (want:Bool) (b:outParam Bool):Prop where
 out:∀(ops:Array Oper) (o:Oper) (env:List AV) (j d:Nat),o.guard=some (j,want)->(ops[j]?).bind (·.dst)=some d->env[d]?=some w->aG ops o env=some b
instance {b c want:Bool}:GB (gv b (.bool c)) want (b&&(c==want)):=⟨λ_ _ _ _ _ C o s=>aG_gv C o s⟩
instance {c want:Bool}:GB (.bool c) want (c==want):=⟨λ_ _ _ _ _ C o s=>by simp only [aG,C,o,s]⟩
class NE (a b:Nat):Prop where
 out:a ≠ b
instance {n:Nat}:NE 0 (n+1):=⟨by omega⟩
instance {n:Nat}:NE (n+1) 0:=⟨by omega⟩
instance {n m:Nat} [i:NE n m]:NE (n+1) (m+1):=⟨by have:=i.out;omega⟩
class NC (Ns:List Nat) (i:Nat):Prop where
 out:Ns.contains i=false
instance {i:Nat}:NC [] i:=⟨rfl⟩
instance {Ns:List Nat} {n i:Nat} [j:NE i n] [k:NC Ns i]:NC (n::Ns) i:=⟨by have:=k.out;have:=j.out;simp_all⟩
class PAD (n:Nat) (l:List AV) (r:outParam (List AV)):Prop where
 out:l++List.replicate (n - l.length) aundef=r
instance:PAD 0 [] []:=⟨rfl⟩
instance {n:Nat} {r:List AV} [i:PAD n [] r]:PAD (n+1) [] (aundef::r):=⟨by have:=i.out;simp only [u6,uV,Nat.sub_zero] at this ⊢;rw [rp,this]⟩
instance {n:Nat} {a:AV} {l r:List AV} [i:PAD n l r]:PAD (n+1) (a::l) (a::r):=⟨by have:=i.out;rw [<- this];simp only [uk,Nat.add_sub_add_right,tS]⟩
theorem yG (n:Nat) {k:Nat} {l r:List AV} (h:k=n) [i:PAD n l r]:l++List.replicate (k - l.length) aundef=r:=by rw [h];exact i.out
class RL (P:Program) (env:List AV) (h:AH) (rs:List ResultVar) (vs:outParam (List AV)):Prop where
 out:aResL P env h rs=some vs
instance {P:Program} {env:List AV} {h:AH}:RL P env h [] []:=⟨rfl⟩
section
variable {P:Program} {env:List AV} {h:AH} {rs:List ResultVar} {vs cs cs' r:List AV} {t a k j:Nat} {L L':List Blk} {M:List Nat} {v v':AV} {td:TypeDesc}
instance [i:GT (.tmp t) env v] [j:RL P env h rs vs]:RL P env h (.tmp t::rs) (v::vs):=⟨rl_tmp i.out j.out⟩
instance [i0:Ty P t td k] [C:NA td] [D:GT (.tmp a) env (.ptr (h.blks.length+j) 0)] [H:NRM L L'] [E:NTH j L' (.cells (v::cs))] [s:TYP P t v v'] [o:RL P env (h.ext L M) rs vs]:RL P env (h.ext L M) (.cell a t::rs) (v'::vs):=⟨rl_cell i0 D.out (by rw [H.out];exact E.out) (by rw [C.out];exact yv rfl) s.out o.out⟩
instance [i0:TA P t k] [H:GT (.tmp a) env (.ptr (h.blks.length+j) 0)] [J:NRM L L'] [I:NTH j L' (.cells cs)] [s:LENV cs k] [o:RL P env (h.ext L M) rs vs]:RL P env (h.ext L M) (.cell a t::rs) (.agg cs::vs):=⟨by
 obtain ⟨td,E,D⟩:=i0.out;have C:=s.out;exact rl_cell E H.out (by rw [J.out];exact I.out) (by rw [D];exact ldC_ag (rg (by omega)) (by rw [<- C];simp)) (za (v:=.agg cs) rfl) o.out⟩
class TU (vs:List AV) (v:outParam AV):Prop where
 out:∀(P:Program) (fn:Func) (env:List AV) (h:AH),aResL P env h fn.results.toList=some vs->aRes P fn env h=some v
instance:TU [] (.tup []):=⟨λP fn env h e=>by simp only [aRes,e]⟩
instance:TU [v] v:=⟨λP fn env h e=>by simp only [aRes,e]⟩
instance:TU (v::v'::vs) (.tup (v::v'::vs)):=⟨λP fn env h e=>by simp only [aRes,e]⟩
theorem fr {fn:Func} {K:AV->AH->Prop} {h0:AH} (C:fn.results=⟨rs⟩) [i:RL P env h rs vs] [j:TU vs v] (s:finK h0 K v h):bodyQ P fn h0 K .ret env h:=by
 have o:=j.out P fn env h (by rw [C];exact i.out);simp only [bodyQ,o];exact s
theorem fe {fn:Func} (D:fn.results=⟨rs⟩) [i:RL P env (h.ext L M) rs vs] [j:TU vs v] (o:v'.low h.blks.length h.toks.length=true) (s:leV v v'):bodyQ P fn h (λC hh=>C=v'/\hh=h) .ret env (h.ext L M):=fr D (wu s o ⟨rfl,rfl⟩)
theorem fz {fn:Func} (C:fn.results=⟨rs⟩) [i:RL P env (h.ext L M) rs vs] [j:TU vs v] (o:v.low h.blks.length h.toks.length=true):bodyQ P fn h (λs hh=>s=v/\hh=h) .ret env (h.ext L M):=fe C o (leV.refl _)
end
class ARGS (P:Program) (env:List AV) (q:Bool) (xs:List Operand) (ts:List TypeId) (vs:outParam (List AV)):Prop where
 out:q=true->∃l,argo env xs ts=some l/\Fx P l vs
section
variable {P:Program} {env env' xs' vs fs cs:List AV} {q:Bool} {xs:List Operand} {ts:List TypeId} {t:TypeId} {x:Operand} {v v':AV} {d:Option Tmp} {p:String} {a:Array Edge} {g:FuncId} {h h':AH} {gd:Option (Nat×Bool)} {rest:List Oper} {Q:List AV->AH->Prop} {ops:Array Oper}
instance:ARGS P env q [] [] []:=⟨λ_=>⟨[],rfl,.nil⟩⟩
instance [i:GG x env q v] [j:TYP P t v v'] [k:ARGS P env q xs ts vs]:ARGS P env q (x::xs) (t::ts) (v'::vs):=⟨λo=>by
 obtain ⟨l,C,s⟩:=k.out o;exact ⟨_,zf (i.out o) C,.cons j.out s⟩⟩
theorem sc [i:ARGS P env q xs ts vs] (s:q=true):zw P ⟨d,.call ⟨.value (.func g),List.toArray xs,List.toArray ts⟩,t,p,a,gd⟩ env h=.call g vs:=by
 obtain ⟨l,C,o⟩:=i.out s;exact ym rfl rfl rfl C o
theorem scC [i0:GG x env q (.fn (.func g) fs cs)] [i:ARGS P env q xs ts vs] (o:q=true):zw P ⟨d,.call ⟨.value x,List.toArray xs,List.toArray ts⟩,t,p,a,gd⟩ env h=.call g (fs++vs++cs):=by
 obtain ⟨l,C,s⟩:=i.out o;exact s_callC rfl rfl (i0.out o) C s rfl
theorem cp [i:ARGS P env true xs ts vs] [j:ST d env v env'] (hs:Spec P g vs h λr h'=>r=v/\h'=h) (o:zH P ops Q rest env' h):zH P ops Q (⟨d,.call ⟨.value (.func g),List.toArray xs,List.toArray ts⟩,t,p,a,none⟩::rest) env h :=
 xX rfl (sc rfl) hs j.out o
end
theorem gg {x:Operand} {env:List AV} {v:AV} [i:GT x env v]:yF env x=some v:=i.out
theorem ss {d:Option Tmp} {env env':List AV} {v:AV} [i:ST d env v env']:vZ d env v=some env':=i.out
theorem oi {α:Type} {a b:α} (h:some a=some b):a=b:=sU h
class LENA (a:AV) (n:outParam Nat):Prop where
 out:aLen a=some n
section
variable {α:Type} {z n i t q' p k':Nat} {row:α->List AV} {L:List α} {es:List (List AV)} {qo:Option Nat}
instance:LENA (.sl z (L.map row)) L.length:=⟨vK⟩
instance:LENA (.osl qo z (L.map row)) L.length:=⟨lenMapO⟩
instance (priority:=low):LENA (.sl z es) es.length:=⟨rfl⟩
instance (priority:=low):LENA (.osl qo z es) es.length:=⟨rfl⟩
instance:LENA (.rsl i t z n) n:=⟨rfl⟩
instance:LENA (.msl z i t n) n:=⟨rfl⟩
instance:LENA (.rsuf i t z n p) (n - p):=⟨rfl⟩
end
class ISS (d:TypeDesc):Prop where
 out:d=.string
instance:ISS .string:=⟨rfl⟩
class LN (P:Program) (t:TypeId) (v:AV) (n:outParam Nat):Prop where
 out:∀(o:Oper) (env:List AV) (h:AH) (c:Call) (x:Operand),o.op=.call c->c.callee=.builtin .len->c.args=#[x]->c.argTypes=#[t]->yF env x=some v->zw P o env h=.len n (.int .i64 n) h
instance {P:Program} {t:TypeId} {d:TypeDesc} {k:Nat} {s:List UInt8} [i:Ty P t d k] [j:ISS d]:LN P t (.str s) s.length:=⟨λo env h c x I C E H D=>by
 have:=j.out;subst this;exact s_lenStr I C E H i D⟩
instance {P:Program} {t e:TypeId} {k n:Nat} {v:AV} [i:El P t e k] [j:LENA v n]:LN P t v n:=⟨λo env h c x H s D E C=>wC H s D E i C j.out⟩
class ISL (a:AV) (α:outParam Type) (z:outParam Nat) (row:outParam (α->List AV)) (L:outParam (List α)):Prop where
 out:IsSl a z row L
instance {α:Type} {z:Nat} {row:α->List AV} {L:List α}:ISL (.sl z (L.map row)) α z row L:=⟨isl⟩
instance {α:Type} {q:Option Nat} {z:Nat} {row:α->List AV} {L:List α}:ISL (.osl q z (L.map row)) α z row L:=⟨iosl⟩
section
variable {P:Program} {env env':List AV} {q want b:Bool} {t t' e:TypeId} {x i:Operand} {v v' w:AV} {d:Option Tmp} {p:String} {a:Array Edge} {h:AH} {rest l:List Oper} {Q:List AV->AH->Prop} {ops:Array Oper} {n j m z:Nat} {nn:Int} {k:IntKind} {α:Type} {row:α->List AV} {L:List α} {y:α} {Ns:List Nat} {F:Nat->AH->Prop} {i9:Nat}
theorem ln [o:GT x env v] [s:LN P t v n] [C:ST d env (.int .i64 n) env'] (D:n<=maxLen->zH P ops Q rest env' h):zH P ops Q (⟨d,.call ⟨.builtin .len,List.toArray [x],List.toArray [t]⟩,t',p,a,none⟩::rest) env h :=
 ops_len rfl (s.out _ _ _ _ _ rfl rfl rfl rfl o.out) C.out D
theorem lng [s:DST l j m] [C:GT (.tmp m) env w] [H:GB w want b] [I:GG x env b v] [J:LN P t v n] [o:ST d env (gv b (.int .i64 n)) env'] (E:(b=true->n<=maxLen)->zH P (List.toArray l) Q rest env' h) :
  zH P (List.toArray l) Q (⟨d,.call ⟨.builtin .len,List.toArray [x],List.toArray [t]⟩,t',p,a,some (j,want)⟩::rest) env h :=
 ops_glen (H.out _ _ _ _ _ rfl (by simpa using s.out) C.out) (λD=>J.out _ _ _ _ _ rfl rfl rfl rfl (I.out D)) o.out E
theorem ix [i0:El P t e z] [D:GT x env v] [H:GT i env (.int k nn)] [o:ISL v α z row L] (E:yu L nn=some y) [s:ST d env (.fptr (row y)) env'] (C:zH P ops Q rest env' h):zH P ops Q (⟨d,.indexAddr t x i,t',p,a,none⟩::rest) env h :=
 zc rfl (s_idxRow rfl i0 D.out H.out o.out E) s.out C
theorem gix [Inhabited α] [D:DST l j m] [E:GT (.tmp m) env w] [I:GB w want b] [i0:El P t e z] [J:GG x env b v] [O:GG i env b (.int k nn)] [s:ISL v α z row L] (K:b=true->0<=nn/\nn < L.length) [C:ST d env (gv b (.fptr (row (L.getD nn.toNat default)))) env'] (H:zH P (List.toArray l) Q rest env' h) :
  zH P (List.toArray l) Q (⟨d,.indexAddr t x i,t',p,a,some (j,want)⟩::rest) env h :=
 qw (I.out _ _ _ _ _ rfl (by simpa using D.out) E.out) (λo=>s_gidxRow default rfl i0 (J.out o) (O.out o) s.out (K o)) C.out H
theorem dgix [Inhabited α] [NC Ns i9] [D:DST l j m] [E:GT (.tmp m) env w] [I:GB w want b] [i0:El P t e z] [J:GG x env b v] [O:GG i env b (.int k nn)] [s:ISL v α z row L] (K:b=true->0<=nn/\nn < L.length) [C:ST d env (gv b (.fptr (row (L.getD nn.toNat default)))) env'] (H:zY P (List.toArray l) Ns F Q (i9+1) rest env' h) :
  zY P (List.toArray l) Ns F Q i9 (⟨d,.indexAddr t x i,t',p,a,some (j,want)⟩::rest) env h :=
 wd NC.out (I.out _ _ _ _ _ rfl (by simpa using D.out) E.out) (λo=>s_gidxRow default rfl i0 (J.out o) (O.out o) s.out (K o)) C.out H
theorem dix [NC Ns i9] [i0:El P t e z] [D:GT x env v] [H:GT i env (.int k nn)] [o:ISL v α z row L] (E:yu L nn=some y) [s:ST d env (.fptr (row y)) env'] (C:zY P ops Ns F Q (i9+1) rest env' h):zY P ops Ns F Q i9 (⟨d,.indexAddr t x i,t',p,a,none⟩::rest) env h :=
 zt NC.out rfl (s_idxRow rfl i0 D.out H.out o.out E) s.out C
end
abbrev yn (v:AV) (h:AH):AV->AH->Prop:=λrr hh=>rr=v/\hh=h
class LEV (a b:AV):Prop where
 out:leV a b
class LEL (a b:List AV):Prop where
 o:leL a b
instance {a:AV}:LEV a a:=⟨leV.refl _⟩
instance {q:Option Nat} {k:Nat} {e:List (List AV)}:LEV (.osl q k e) (.sl k e):=⟨leV.osl _ _ _⟩
instance:LEL [] []:=⟨leL.nil⟩
instance {a:AV} {r s:List AV} [i:LEL r s]:LEL (a::r) (.any::s):=⟨.drop i.o⟩
instance {a b:AV} {r s:List AV} [j:LEV a b] [i:LEL r s]:LEL (a::r) (b::s):=⟨.cons j.out i.o⟩
instance {l r:List AV} [i:LEL l r]:LEV (.tup l) (.tup r):=⟨.tup i.o⟩
class R (p:Prop) (G:outParam Prop):Prop where
 r:G->p
instance (priority:=low) R.refl {p:Prop}:R p p:=⟨id⟩
section
variable {P:Program} {ops:Array Oper} {F:Nat->AH->Prop} {Q:List AV->AH->Prop} {QS:Exit->List AV->AH->Prop} {rest l:List Oper} {env env':List AV} {h h0 h':AH} {G:Prop} {d:Option Tmp} {op:Op} {t:TypeId} {p:String} {a:Array Edge} {x:Operand} {v v' w:AV} {id i j n:Nat} {A B:Code} {want b:Bool} {N:List AV->AH->Prop}
instance [s:ONE P ⟨d,op,t,p,a,none⟩ env h true v] [C:ST d env v env'] [o:R (zH P ops Q rest env' h) G]:R (zH P ops Q (⟨d,op,t,p,a,none⟩::rest) env h) G:=⟨λD=>zc rfl (s.out rfl) C.out (o.r D)⟩
instance [s:ONE P ⟨d,op,t,p,a,none⟩ env h true v] [C:ST d env v env'] [o:R (zY P ops [] F Q (i+1) rest env' h) G]:R (zY P ops [] F Q i (⟨d,op,t,p,a,none⟩::rest) env h) G:=⟨λD=>zt rfl rfl (s.out rfl) C.out (o.r D)⟩
instance [E:DST l j n] [C:GT (.tmp n) env w] [I:GB w want b] [H:ONE P ⟨d,op,t,p,a,some (j,want)⟩ env h b v] [o:ST d env (gv b v) env'] [D:R (zH P (List.toArray l) Q rest env' h) G]:R (zH P (List.toArray l) Q (⟨d,op,t,p,a,some (j,want)⟩::rest) env h) G:=⟨λs=>qw (I.out _ _ _ _ _ rfl (by simpa using E.out) C.out) H.out o.out (D.r s)⟩
instance [E:DST l j n] [C:GT (.tmp n) env w] [I:GB w want b] [H:ONE P ⟨d,op,t,p,a,some (j,want)⟩ env h b v] [o:ST d env (gv b v) env'] [D:R (zY P (List.toArray l) [] F Q (i+1) rest env' h) G]:R (zY P (List.toArray l) [] F Q i (⟨d,op,t,p,a,some (j,want)⟩::rest) env h) G:=⟨λs=>wd rfl (I.out _ _ _ _ _ rfl (by simpa using E.out) C.out) H.out o.out (D.r s)⟩
instance [s:EFF P ⟨d,op,t,p,a,none⟩ env h v h'] [C:ST d env v env'] [o:R (zH P ops Q rest env' h') G]:R (zH P ops Q (⟨d,op,t,p,a,none⟩::rest) env h) G:=⟨λD=>zc rfl s.out C.out (o.r D)⟩
instance [i:R (Q env h) G]:R (zH P ops Q [] env h) G:=⟨λo=>ops_nil (i.r o)⟩
instance {Ns:List Nat} {i:Nat} [j:R (Q env h) G]:R (zY P ops Ns F Q i [] env h) G:=⟨λo=>draw_nil (j.r o)⟩
instance (priority:=low) {Ns:List Nat} [i0:NC Ns i] [D:ONE P ⟨d,op,t,p,a,none⟩ env h true v] [o:ST d env v env'] [C:R (zY P ops Ns F Q (i+1) rest env' h) G]:R (zY P ops Ns F Q i (⟨d,op,t,p,a,none⟩::rest) env h) G:=⟨λs=>zt i0.out rfl (D.out rfl) o.out (C.r s)⟩
instance (priority:=low) {Ns:List Nat} [i0:NC Ns i] [E:DST l j n] [C:GT (.tmp n) env w] [I:GB w want b] [H:ONE P ⟨d,op,t,p,a,some (j,want)⟩ env h b v] [o:ST d env (gv b v) env'] [D:R (zY P (List.toArray l) Ns F Q (i+1) rest env' h) G]:R (zY P (List.toArray l) Ns F Q i (⟨d,op,t,p,a,some (j,want)⟩::rest) env h) G:=⟨λs=>wd i0.out (I.out _ _ _ _ _ rfl (by simpa using E.out) C.out) H.out o.out (D.r s)⟩
instance [i:R (qb P A (seqQ P h B QS) env h) G]:R (qb P (.seq A B) QS env h) G:=⟨λk=>r_seq (i.r k)⟩
instance [i:R (zH P (List.toArray l) (QS .normal) l env h) G]:R (qb P (.region id (List.toArray l) false) QS env h) G:=⟨λk=>vl (i.r k)⟩
instance [i:R (qb P A (blockQ id QS) env h) G]:R (qb P (.block id A) QS env h) G:=⟨λk=>r_block (i.r k)⟩
instance [i:R (QS .normal env h) G]:R (qb P .skip QS env h) G:=⟨λk=>r_skip (i.r k)⟩
instance [i:R (QS .normal env h) G]:R (qb P (.label id) QS env h) G:=⟨λk=>r_label (i.r k)⟩
instance [i:R (QS .ret env h) G]:R (qb P .ret QS env h) G:=⟨λk=>r_ret (i.r k)⟩
instance [i:R (QS (.exit id) env h) G]:R (qb P (.exit id) QS env h) G:=⟨λk=>r_exit (i.r k)⟩
instance [i:R (qb P B QS env h) G]:R (seqQ P h0 B QS .normal env h) G:=⟨λk=>q_seq (i.r k)⟩
instance [i:R (QS .ret env h) G]:R (seqQ P h0 B QS .ret env h) G:=⟨λk=>q_seq_ret (i.r k)⟩
instance [i:R (QS (.exit id) env h) G]:R (seqQ P h0 B QS (.exit id) env h) G:=⟨λk=>q_seq_exit (i.r k)⟩
instance [i:R (QS .normal env h) G]:R (blockQ id QS .normal env h) G:=⟨λk=>q_block (i.r k)⟩
instance [i:R (QS .ret env h) G]:R (blockQ id QS .ret env h) G:=⟨λk=>q_block_ret (i.r k)⟩
instance [i:R (QS .normal env h) G]:R (blockQ id QS (.exit id) env h) G:=⟨λk=>q_block_hit (i.r k)⟩
instance [i:R (QS .ret env h) G]:R (loopQ N QS .ret env h) G:=⟨λk=>q_loop_ret (i.r k)⟩
instance [i:R (QS (.exit id) env h) G]:R (loopQ N QS (.exit id) env h) G:=⟨λk=>q_loop_exit (i.r k)⟩
instance [i:R (N env h) G]:R (loopQ N QS .normal env h) G:=⟨λk=>q_loop (i.r k)⟩
instance {fn:Func} {K:AV->AH->Prop} [i:R (bodyQ P fn h0 K .ret env h) G]:R (bodyQ P fn h0 K .normal env h) G:=⟨λk=>q_end (i.r k)⟩
end
end Go.Vv
