/- Steps that nobody needs to tell: found by instances. -/
import Derived.Test.YtdodjocbjapaeaaGreatVvIt
namespace Go.Vv
open Go
class GT (x:Operand) (env:List AV) (v:outParam AV):Prop where
 out:z7 env x=some v
class ST (d:Option Tmp) (env:List AV) (v:AV) (env':outParam (List AV)):Prop where
 out:x9 d env v=some env'
class TY (v:AV) (v':outParam AV):Prop where
 out:tyo v=some v'
section
variable {v a0 a1 a2 a3 a4 a5 a6 a7 a8 a9 a10 a11 a12 a13 a14 a15:AV} {r r':List AV} {n:Nat}
instance {env:List AV}:ST none env v env:=⟨rfl⟩
instance:GT (.tmp 0) (a0::r) a0:=⟨rfl⟩
instance:ST (some 0) (a0::r) v (v::r):=⟨rfl⟩
instance:GT (.tmp 1) (a0::a1::r) a1:=⟨rfl⟩
instance:ST (some 1) (a0::a1::r) v (a0::v::r):=⟨rfl⟩
instance:GT (.tmp 2) (a0::a1::a2::r) a2:=⟨rfl⟩
instance:ST (some 2) (a0::a1::a2::r) v (a0::a1::v::r):=⟨rfl⟩
instance:GT (.tmp 3) (a0::a1::a2::a3::r) a3:=⟨rfl⟩
instance:ST (some 3) (a0::a1::a2::a3::r) v (a0::a1::a2::v::r):=⟨rfl⟩
instance:GT (.tmp 4) (a0::a1::a2::a3::a4::r) a4:=⟨rfl⟩
instance:ST (some 4) (a0::a1::a2::a3::a4::r) v (a0::a1::a2::a3::v::r):=⟨rfl⟩
instance:GT (.tmp 5) (a0::a1::a2::a3::a4::a5::r) a5:=⟨rfl⟩
instance:ST (some 5) (a0::a1::a2::a3::a4::a5::r) v (a0::a1::a2::a3::a4::v::r):=⟨rfl⟩
instance:GT (.tmp 6) (a0::a1::a2::a3::a4::a5::a6::r) a6:=⟨rfl⟩
instance:ST (some 6) (a0::a1::a2::a3::a4::a5::a6::r) v (a0::a1::a2::a3::a4::a5::v::r):=⟨rfl⟩
instance:GT (.tmp 7) (a0::a1::a2::a3::a4::a5::a6::a7::r) a7:=⟨rfl⟩
instance:ST (some 7) (a0::a1::a2::a3::a4::a5::a6::a7::r) v (a0::a1::a2::a3::a4::a5::a6::v::r):=⟨rfl⟩
instance:GT (.tmp 8) (a0::a1::a2::a3::a4::a5::a6::a7::a8::r) a8:=⟨rfl⟩
instance:ST (some 8) (a0::a1::a2::a3::a4::a5::a6::a7::a8::r) v (a0::a1::a2::a3::a4::a5::a6::a7::v::r):=⟨rfl⟩
instance:GT (.tmp 9) (a0::a1::a2::a3::a4::a5::a6::a7::a8::a9::r) a9:=⟨rfl⟩
instance:ST (some 9) (a0::a1::a2::a3::a4::a5::a6::a7::a8::a9::r) v (a0::a1::a2::a3::a4::a5::a6::a7::a8::v::r):=⟨rfl⟩
instance:GT (.tmp 10) (a0::a1::a2::a3::a4::a5::a6::a7::a8::a9::a10::r) a10:=⟨rfl⟩
instance:ST (some 10) (a0::a1::a2::a3::a4::a5::a6::a7::a8::a9::a10::r) v (a0::a1::a2::a3::a4::a5::a6::a7::a8::a9::v::r):=⟨rfl⟩
instance:GT (.tmp 11) (a0::a1::a2::a3::a4::a5::a6::a7::a8::a9::a10::a11::r) a11:=⟨rfl⟩
instance:ST (some 11) (a0::a1::a2::a3::a4::a5::a6::a7::a8::a9::a10::a11::r) v (a0::a1::a2::a3::a4::a5::a6::a7::a8::a9::a10::v::r):=⟨rfl⟩
instance:GT (.tmp 12) (a0::a1::a2::a3::a4::a5::a6::a7::a8::a9::a10::a11::a12::r) a12:=⟨rfl⟩
instance:ST (some 12) (a0::a1::a2::a3::a4::a5::a6::a7::a8::a9::a10::a11::a12::r) v (a0::a1::a2::a3::a4::a5::a6::a7::a8::a9::a10::a11::v::r):=⟨rfl⟩
instance:GT (.tmp 13) (a0::a1::a2::a3::a4::a5::a6::a7::a8::a9::a10::a11::a12::a13::r) a13:=⟨rfl⟩
instance:ST (some 13) (a0::a1::a2::a3::a4::a5::a6::a7::a8::a9::a10::a11::a12::a13::r) v (a0::a1::a2::a3::a4::a5::a6::a7::a8::a9::a10::a11::a12::v::r):=⟨rfl⟩
instance:GT (.tmp 14) (a0::a1::a2::a3::a4::a5::a6::a7::a8::a9::a10::a11::a12::a13::a14::r) a14:=⟨rfl⟩
instance:ST (some 14) (a0::a1::a2::a3::a4::a5::a6::a7::a8::a9::a10::a11::a12::a13::a14::r) v (a0::a1::a2::a3::a4::a5::a6::a7::a8::a9::a10::a11::a12::a13::v::r):=⟨rfl⟩
instance:GT (.tmp 15) (a0::a1::a2::a3::a4::a5::a6::a7::a8::a9::a10::a11::a12::a13::a14::a15::r) a15:=⟨rfl⟩
instance:ST (some 15) (a0::a1::a2::a3::a4::a5::a6::a7::a8::a9::a10::a11::a12::a13::a14::a15::r) v (a0::a1::a2::a3::a4::a5::a6::a7::a8::a9::a10::a11::a12::a13::a14::v::r):=⟨rfl⟩
instance [g:GT (.tmp n) r v]:GT (.tmp (n+16)) (a0::a1::a2::a3::a4::a5::a6::a7::a8::a9::a10::a11::a12::a13::a14::a15::r) v:=⟨by have:=g.out;simpa [z7] using this⟩
instance [g:ST (some n) r v r']:ST (some (n+16)) (a0::a1::a2::a3::a4::a5::a6::a7::a8::a9::a10::a11::a12::a13::a14::a15::r) v (a0::a1::a2::a3::a4::a5::a6::a7::a8::a9::a10::a11::a12::a13::a14::a15::r'):=⟨by have:=g.out;simpa [x9] using this⟩
instance {env:List AV} {k:IntKind} {n:Int}:GT (.const (.int k n)) env (.int k n):=⟨rfl⟩
instance {env:List AV} {b:Bool}:GT (.const (.bool b)) env (.bool b):=⟨rfl⟩
class LenB (l:List UInt8) (k:Nat):Prop where
 out:l.length≤k
instance {k:Nat}:LenB [] k:=⟨Nat.zero_le _⟩
instance {a:UInt8} {l:List UInt8} {k:Nat} [i:LenB l k]:LenB (a::l) (k+1):=⟨Nat.succ_le_succ i.out⟩
instance {env:List AV} {l:List UInt8} [i:LenB l 64]:GT (.const (.string ⟨List.toArray l⟩)) env (.str l):=⟨by
 have h:(ByteArray.mk (List.toArray l)).size≤maxLen:=Nat.le_trans (by simpa [ByteArray.size] using i.out) (by decide);simp [z7,cvo,h]⟩
instance {env:List AV}:GT (.const (.pointer none)) env .nilp:=⟨rfl⟩
instance {env:List AV}:GT (.const (.map none)) env .nilm:=⟨rfl⟩
instance {env:List AV}:GT (.const .nilFunc) env .nilf:=⟨rfl⟩
instance {env:List AV}:GT (.const .nilIface) env .nili:=⟨rfl⟩
instance {env:List AV}:GT (.const (.slice none 0 0)) env .nilsl:=⟨rfl⟩
instance {env:List AV} {g:Nat}:GT (.global g) env (.glob g):=⟨rfl⟩
instance {env:List AV} {f:FuncId}:GT (.func f) env (.fn (.func f) [] []):=⟨rfl⟩
end
instance {b}:TY (.bool b) (.bool b):=⟨rfl⟩
instance {k n}:TY (.int k n) (.int k n):=⟨rfl⟩
instance {s}:TY (.str s) (.str s):=⟨rfl⟩
instance {i o}:TY (.ptr i o) (.ptr i o):=⟨rfl⟩
instance {c}:TY (.fptr c) (.fptr c):=⟨rfl⟩
instance {k e}:TY (.sl k e) (.sl k e):=⟨rfl⟩
instance {q k e}:TY (.osl q k e) (.osl q k e):=⟨rfl⟩
instance {a b c d}:TY (.msl a b c d) (.msl a b c d):=⟨rfl⟩
instance {a b c d}:TY (.rsl a b c d) (.rsl a b c d):=⟨rfl⟩
instance {a b c d e}:TY (.rptr a b c d e) (.rptr a b c d e):=⟨rfl⟩
instance {a b c d e}:TY (.rsuf a b c d e) (.rsuf a b c d e):=⟨rfl⟩
instance {i}:TY (.map i) (.map i):=⟨rfl⟩
instance {f x y}:TY (.fn f x y) (.fn f x y):=⟨rfl⟩
instance {t v}:TY (.iface t v) (.iface t v):=⟨rfl⟩
instance {c}:TY (.agg c) (.agg c):=⟨rfl⟩
instance {c}:TY (.tup c) (.tup c):=⟨rfl⟩
instance {g}:TY (.glob g) (.glob g):=⟨rfl⟩
instance {i}:TY (.yld i) (.yld i):=⟨rfl⟩
instance:TY .nilp .nilp:=⟨rfl⟩
instance:TY .nilm .nilm:=⟨rfl⟩
instance:TY .nilf .nilf:=⟨rfl⟩
instance:TY .nili .nili:=⟨rfl⟩
instance {v:AV} {b:Bool}:TY (withOk true v b) (.tup [v,.bool b]):=⟨by simp [withOk,tyo]⟩
section
variable {α:Type}
class NTH (n:Nat) (l:List α) (v:outParam α):Prop where
 out:l[n]?=some v
instance {a:α} {l:List α}:NTH 0 (a::l) a:=⟨rfl⟩
instance {n:Nat} {a v:α} {l:List α} [i:NTH n l v]:NTH (n+1) (a::l) v:=⟨by simpa using i.out⟩
class DROP (n:Nat) (l:List α) (r:outParam (List α)):Prop where
 out:l.drop n=r
 le:n≤l.length
instance {l:List α}:DROP 0 l l:=⟨rfl,Nat.zero_le _⟩
instance {n:Nat} {a:α} {l r:List α} [i:DROP n l r]:DROP (n+1) (a::l) r:=⟨by simpa using i.out,Nat.succ_le_succ i.le⟩
class TAKE (n:Nat) (l:List α) (r:outParam (List α)):Prop where
 out:l.take n=r∧n≤l.length
instance {l:List α}:TAKE 0 l []:=⟨by simp⟩
instance {n:Nat} {a:α} {l r:List α} [i:TAKE n l r]:TAKE (n+1) (a::l) (a::r):=⟨by have:=i.out;simp [this.1,this.2]⟩
end
class SPL (n:Nat) (vs l:List AV) (r:outParam (List AV)):Prop where
 out:yx l n vs=r∧n+vs.length≤l.length
class APP (l r:List Blk) (s:outParam (List Blk)):Prop where
 out:l++r=s
instance {r:List Blk}:APP [] r r:=⟨rfl⟩
instance {a:Blk} {l r s:List Blk} [i:APP l r s]:APP (a::l) r (a::s):=⟨by rw [← i.out];rfl⟩
class SETL (l:List Blk) (n:Nat) (b:Blk) (s:outParam (List Blk)):Prop where
 out:l.set n b=s
instance {a b:Blk} {l:List Blk}:SETL (a::l) 0 b (b::l):=⟨rfl⟩
instance {a b:Blk} {l s:List Blk} {n:Nat} [i:SETL l n b s]:SETL (a::l) (n+1) b (a::s):=⟨by rw [← i.out];rfl⟩
class NRM (l:List Blk) (s:outParam (List Blk)):Prop where
 out:l=s
instance:NRM [] []:=⟨rfl⟩
instance {a:Blk} {l:List Blk}:NRM (a::l) (a::l):=⟨rfl⟩
instance {l r l' s:List Blk} [i:NRM l l'] [j:APP l' r s]:NRM (l++r) s:=⟨by rw [i.out,j.out]⟩
instance {l l' s:List Blk} {n:Nat} {b:Blk} [i:NRM l l'] [j:SETL l' n b s]:NRM (l.set n b) s:=⟨by rw [i.out,j.out]⟩
class FA (off:Nat) (a:AV) (v:outParam AV):Prop where
 out:vK off a=some v
instance {off i:Nat}:FA off (.ptr i 0) (.ptr i off):=⟨by simp [vK]⟩
instance (priority:=low) {off i o:Nat}:FA off (.ptr i o) (.ptr i (o+off)):=⟨rfl⟩
instance {off:Nat} {cs r:List AV} [i:DROP off cs r]:FA off (.fptr cs) (.fptr r):=⟨by simp [vK,i.out]⟩
class BI (op:BinOp) (t:TypeId) (x y:AV) (v:outParam AV):Prop where
 out:∀ P,xf P op t x y=some v
section
variable {t:TypeId} {k:IntKind} {a b:Int} {x y:List UInt8}
instance:BI .add t (.int k a) (.int k b) (.int k (k.wrap (a+b))):=⟨fun P=>by simp [xf,vu]⟩
instance:BI .sub t (.int k a) (.int k b) (.int k (k.wrap (a - b))):=⟨fun P=>by simp [xf,vu]⟩
instance:BI .mul t (.int k a) (.int k b) (.int k (k.wrap (a * b))):=⟨fun P=>by simp [xf,vu]⟩
instance:BI .and t (.int k a) (.int k b) (.int k (k.wrap ((BitVec.ofInt k.bits a &&& BitVec.ofInt k.bits b).toNat))):=⟨fun P=>by simp [xf,vu]⟩
instance:BI .or t (.int k a) (.int k b) (.int k (k.wrap ((BitVec.ofInt k.bits a ||| BitVec.ofInt k.bits b).toNat))):=⟨fun P=>by simp [xf,vu]⟩
instance:BI .andNot t (.int k a) (.int k b) (.int k (k.wrap ((BitVec.ofInt k.bits a &&& ~~~(BitVec.ofInt k.bits b)).toNat))):=⟨fun P=>by simp [xf,vu]⟩
instance:BI .xor t (.int k a) (.int k b) (.int k (k.wrap ((BitVec.ofInt k.bits a ^^^ BitVec.ofInt k.bits b).toNat))):=⟨fun P=>by simp [xf,vu]⟩
instance:BI .eql t (.int k a) (.int k b) (.bool (a==b)):=⟨fun P=>by simp [xf,vu]⟩
instance:BI .neq t (.int k a) (.int k b) (.bool (a != b)):=⟨fun P=>by simp [xf,vu]⟩
instance:BI .lss t (.int k a) (.int k b) (.bool (decide (a < b))):=⟨fun P=>by simp [xf,vu]⟩
instance:BI .leq t (.int k a) (.int k b) (.bool (decide (a≤b))):=⟨fun P=>by simp [xf,vu]⟩
instance:BI .gtr t (.int k a) (.int k b) (.bool (decide (a > b))):=⟨fun P=>by simp [xf,vu]⟩
instance:BI .geq t (.int k a) (.int k b) (.bool (decide (a ≥ b))):=⟨fun P=>by simp [xf,vu]⟩
instance:BI .eql t (.str x) (.str y) (.bool (x==y)):=⟨fun P=>by simp [xf,aStr]⟩
instance:BI .neq t (.str x) (.str y) (.bool !(x==y)):=⟨fun P=>by simp [xf,aStr]⟩
instance:BI .lss t (.str x) (.str y) (.bool (Op.bytesLess x y)):=⟨fun P=>by simp [xf,aStr]⟩
instance:BI .leq t (.str x) (.str y) (.bool (Op.bytesLess x y || x==y)):=⟨fun P=>by simp [xf,aStr]⟩
instance:BI .gtr t (.str x) (.str y) (.bool !(Op.bytesLess x y || x==y)):=⟨fun P=>by simp [xf,aStr]⟩
instance:BI .geq t (.str x) (.str y) (.bool !(Op.bytesLess x y)):=⟨fun P=>by simp [xf,aStr]⟩
instance {k2:IntKind}:BI .shr t (.int k a) (.int k2 1) (.int k (a.fdiv (2 ^ min (1:Int).toNat k.bits))):=⟨fun P=>by simp [xf,vu]⟩
instance {k2:IntKind}:BI .shr t (.int k a) (.int k2 2) (.int k (a.fdiv (2 ^ min (2:Int).toNat k.bits))):=⟨fun P=>by simp [xf,vu]⟩
instance {k2:IntKind}:BI .shr t (.int k a) (.int k2 3) (.int k (a.fdiv (2 ^ min (3:Int).toNat k.bits))):=⟨fun P=>by simp [xf,vu]⟩
instance {k2:IntKind}:BI .shr t (.int k a) (.int k2 4) (.int k (a.fdiv (2 ^ min (4:Int).toNat k.bits))):=⟨fun P=>by simp [xf,vu]⟩
instance {k2:IntKind}:BI .shr t (.int k a) (.int k2 5) (.int k (a.fdiv (2 ^ min (5:Int).toNat k.bits))):=⟨fun P=>by simp [xf,vu]⟩
instance {k2:IntKind}:BI .shr t (.int k a) (.int k2 6) (.int k (a.fdiv (2 ^ min (6:Int).toNat k.bits))):=⟨fun P=>by simp [xf,vu]⟩
instance {k2:IntKind}:BI .shr t (.int k a) (.int k2 7) (.int k (a.fdiv (2 ^ min (7:Int).toNat k.bits))):=⟨fun P=>by simp [xf,vu]⟩
instance {k2:IntKind}:BI .shr t (.int k a) (.int k2 8) (.int k (a.fdiv (2 ^ min (8:Int).toNat k.bits))):=⟨fun P=>by simp [xf,vu]⟩
instance {k2:IntKind}:BI .shr t (.int k a) (.int k2 16) (.int k (a.fdiv (2 ^ min (16:Int).toNat k.bits))):=⟨fun P=>by simp [xf,vu]⟩
instance {k2:IntKind}:BI .shr t (.int k a) (.int k2 24) (.int k (a.fdiv (2 ^ min (24:Int).toNat k.bits))):=⟨fun P=>by simp [xf,vu]⟩
instance {k2:IntKind}:BI .shr t (.int k a) (.int k2 32) (.int k (a.fdiv (2 ^ min (32:Int).toNat k.bits))):=⟨fun P=>by simp [xf,vu]⟩
instance {k2:IntKind}:BI .shr t (.int k a) (.int k2 40) (.int k (a.fdiv (2 ^ min (40:Int).toNat k.bits))):=⟨fun P=>by simp [xf,vu]⟩
instance {k2:IntKind}:BI .shr t (.int k a) (.int k2 48) (.int k (a.fdiv (2 ^ min (48:Int).toNat k.bits))):=⟨fun P=>by simp [xf,vu]⟩
instance {k2:IntKind}:BI .shr t (.int k a) (.int k2 56) (.int k (a.fdiv (2 ^ min (56:Int).toNat k.bits))):=⟨fun P=>by simp [xf,vu]⟩
instance {k2:IntKind}:BI .shr t (.int k a) (.int k2 63) (.int k (a.fdiv (2 ^ min (63:Int).toNat k.bits))):=⟨fun P=>by simp [xf,vu]⟩
end
class UN (op:UnOp) (x:AV) (v:outParam AV):Prop where
 out:aUn op x=some v
instance {b:Bool}:UN .not (.bool b) (.bool !b):=⟨rfl⟩
class NA (d:TypeDesc):Prop where
 out:zV d=false
instance {k:IntKind}:NA (.int k):=⟨rfl⟩
instance:NA .string:=⟨rfl⟩
instance:NA .bool:=⟨rfl⟩
instance {e:TypeId}:NA (.slice e):=⟨rfl⟩
instance {e:TypeId}:NA (.pointer e):=⟨rfl⟩
instance {a b:TypeId}:NA (.map a b):=⟨rfl⟩
class TA (P:Program) (t:TypeId) (k:outParam Nat):Prop where
 out:∃ d,Ty P t d k∧zV d=true
class SUC (k:Nat):Prop where
 out:∃ j,k=j+1
instance {n:Nat}:SUC (n+1):=⟨⟨n,rfl⟩⟩
class IMP (b b':Bool):Prop where
 out:b=true→b'=true
instance {b:Bool}:IMP b b:=⟨id⟩
instance {a b c:Bool} [i:IMP a b]:IMP (a&&c) b:=⟨fun h=>i.out (and_l h)⟩
class GGX (b:Bool) (w:AV) (v:outParam AV):Prop where
 out:b=true→w=v
instance {b b':Bool} {v:AV} [i:IMP b b']:GGX b (gv b' v) v:=⟨fun hb=>by rw [i.out hb,gv_true]⟩
instance (priority:=low) {b:Bool} {w:AV}:GGX b w w:=⟨fun _=>rfl⟩
class GG (x:Operand) (env:List AV) (b:Bool) (v:outParam AV):Prop where
 out:b=true→z7 env x=some v
instance {x:Operand} {env:List AV} {b:Bool} {w v:AV} [i:GT x env w] [j:GGX b w v]:GG x env b v:=⟨fun hb=>by rw [← j.out hb];exact i.out⟩
class TYP (P:Program) (t:TypeId) (v:AV) (v':outParam AV):Prop where
 out:tyfix P t v=v'
instance {P:Program} {t:TypeId} {v v':AV} [i:TY v v']:TYP P t v v':=⟨zb i.out⟩
instance {P:Program} {t e:TypeId} {k:Nat} [i:El P t e k]:TYP P t .nilsl (.osl none k []):=⟨ty_nil i⟩
class IMT (b t w b':Bool):Prop where
 out:b=true→t=w→b'=true
instance {b t w:Bool}:IMT b t w (t==w):=⟨fun _ h=>by rw [h];cases w <;> rfl⟩
instance {b b' t w:Bool} [i:IMP b b']:IMT b t w (b'&&(t==w)):=⟨fun h e=>by rw [i.out h,e];cases w <;> rfl⟩
class PK' (b t:Bool) (x y:AV) (v:outParam AV):Prop where
 out:b=true→(if t then x else y)=v
section
variable {b t q r c c':Bool} {k:IntKind} {m n:Int}
instance:PK' b t (.bool q) (.bool r) (.bool (if t then q else r)):=⟨fun _=>pick_bb⟩
instance [i:IMT b t true c]:PK' b t (gv c (.bool q)) (.bool r) (.bool (if t then q else r)):=⟨fun h=>pick_g1 (i.out h)⟩
instance [i:IMT b t false c]:PK' b t (.bool r) (gv c (.bool q)) (.bool (if t then r else q)):=⟨fun h=>pick_g2 (i.out h)⟩
instance [i:IMT b t true c] [j:IMT b t false c']:PK' b t (gv c (.bool q)) (gv c' (.bool r)) (.bool (if t then q else r)):=⟨fun h=>pick_g3 (i.out h) (j.out h)⟩
instance (priority:=high) [i:IMT b t true c]:PK' b t (gv c (.bool q)) (.bool false) (.bool (t&&q)):=⟨fun h=>pick_and (i.out h)⟩
instance (priority:=high) [i:IMT b t false c]:PK' b t (.bool true) (gv c (.bool q)) (.bool (t || q)):=⟨fun h=>pick_or (i.out h)⟩
instance:PK' b t (.int k m) (.int k n) (.int k (if t then m else n)):=⟨fun _=>pick_ii⟩
instance [i:IMT b t true c]:PK' b t (gv c (.int k m)) (.int k n) (.int k (if t then m else n)):=⟨fun h=>pick_ig1 (i.out h)⟩
instance [i:IMT b t false c]:PK' b t (.int k n) (gv c (.int k m)) (.int k (if t then n else m)):=⟨fun h=>pick_ig2 (i.out h)⟩
end
class ONE (P:Program) (o:Oper) (env:List AV) (h:AH) (q:Bool) (v:outParam AV):Prop where
 out:q=true→zp P o env h=.ok v h
section
variable {P:Program} {env:List AV} {h h0:AH} {r':List Blk} {d:Option Tmp} {t t' u:TypeId} {p:String} {a:Array Edge} {x y z:Operand} {v v' w w' b:AV} {id i j n k k' off f:Nat} {cs cs' r:List AV} {L L':List Blk} {M:List Nat} {td:TypeDesc} {gd:Option (Nat×Bool)} {q tt:Bool}
instance [i1:GG x env q v] [i2:TYP P t v v']:ONE P ⟨d,.move x,t,p,a,gd⟩ env h q v':=⟨fun hb=>s_move rfl (i1.out hb) i2.out⟩
instance [i1:GG x env q v] [i2:TYP P t v v']:ONE P ⟨d,.assign x,t,p,a,gd⟩ env h q v':=⟨fun hb=>s_assign rfl (i1.out hb) i2.out⟩
instance [i1:GG x env q (.bool tt)] [i2:GT y env v] [i3:GT z env w] [i4:PK' q tt v w b]:ONE P ⟨d,.pick x y z,t,p,a,gd⟩ env h q b:=⟨fun hb=>s_pick rfl (i1.out hb) i2.out i3.out (i4.out hb)⟩
instance [i0:Fo P t f off u k] [s:SUC k] [i1:GG x env q v] [i2:FA off v v']:ONE P ⟨d,.fieldAddr t x f,t',p,a,gd⟩ env h q v':=⟨fun hb=>by
 obtain ⟨j,rfl⟩:=s.out;exact s_fieldAddr rfl i0 (i1.out hb) i2.out⟩
instance {op:BinOp} [i1:GG x env q v] [i2:GG y env q v'] [i3:BI op t v v' w]:ONE P ⟨d,.binOp op t x y u,t',p,a,gd⟩ env h q w:=⟨fun hb=>vT rfl (i1.out hb) (i2.out hb) (i3.out P)⟩
instance {op:UnOp} [i1:GG x env q v] [i3:UN op v w]:ONE P ⟨d,.unOp op t x,t',p,a,gd⟩ env h q w:=⟨fun hb=>s_un rfl (i1.out hb) i3.out⟩
instance [i1:GG x env q (.tup cs)] [i2:NTH n cs v] [i3:TYP P t v v']:ONE P ⟨d,.extract x n,t,p,a,gd⟩ env h q v':=⟨fun hb=>s_extract rfl (i1.out hb) i2.out i3.out⟩
instance [i1:GG x env q (.fptr cs)]:ONE P ⟨d,.nilCheck x,t,p,a,gd⟩ env h q (.fptr cs):=⟨fun hb=>s_nilCheck rfl (i1.out hb) rfl⟩
instance [i1:GG x env q (.ptr i j)]:ONE P ⟨d,.nilCheck x,t,p,a,gd⟩ env h q (.ptr i j):=⟨fun hb=>s_nilCheck rfl (i1.out hb) rfl⟩
instance [i0:Ty P t td k] [i4:NA td] [i1:GG x env q (.ptr (h0.blks.length+j) off)] [i6:NRM L L'] [i2:NTH j L' (.cells cs)] [i3:NTH off cs v] [i5:TYP P t v v']:ONE P ⟨d,.load t x,t',p,a,gd⟩ env (h0.ext L M) q v':=⟨fun hb=>x4 rfl i0 (i1.out hb) (by rw [i6.out];exact i2.out) (by rw [i4.out];exact zW i3.out) i5.out⟩
instance [i0:Ty P t td k] [i4:NA td] [i1:GG x env q (.fptr cs)] [i3:NTH 0 cs v] [i5:TYP P t v v']:ONE P ⟨d,.load t x,t',p,a,gd⟩ env h q v':=⟨fun hb=>f_load rfl i0 (i1.out hb) (by rw [i4.out];exact zW i3.out) i5.out⟩
instance [i0:TA P t k] [i1:GG x env q (.ptr (h0.blks.length+j) off)] [i6:NRM L L'] [i2:NTH j L' (.cells cs)] [i3:DROP off cs cs'] [i4:TAKE k cs' r]:ONE P ⟨d,.load t x,t',p,a,gd⟩ env (h0.ext L M) q (.agg r):=⟨fun hb=>by
 obtain ⟨td,q1,q2⟩:=i0.out;have h1:=i3.out;have h2:=i4.out;refine x4 rfl q1 (i1.out hb) (by rw [i6.out];exact i2.out) ?_ (zb (v:=.agg r) rfl);rw [q2];refine ldC_ag (Nat.ble_eq_true_of_le ?_) (by rw [h1,h2.1]);have:=h2.2;rw [← h1,List.length_drop] at this;have:=i3.le;omega⟩
instance [i0:TA P t k] [i1:GG x env q (.fptr cs)] [i4:TAKE k cs r]:ONE P ⟨d,.load t x,t',p,a,gd⟩ env h q (.agg r):=⟨fun hb=>by
 obtain ⟨td,q1,q2⟩:=i0.out;have h2:=i4.out;refine f_load rfl q1 (i1.out hb) ?_ (zb (v:=.agg r) rfl);rw [q2];exact ldC_ag (Nat.ble_eq_true_of_le (by have:=h2.2;omega)) (by rw [List.drop_zero,h2.1])⟩
class CEL (v:AV) (cs:outParam (List AV)):Prop where
 out:v.cells?=some cs
instance:CEL (.agg cs) cs:=⟨rfl⟩
class LENB (L:List Blk) (n:outParam Nat):Prop where
 out:L.length=n
instance:LENB [] 0:=⟨rfl⟩
instance {b0:Blk}:LENB [b0] 1:=⟨rfl⟩
instance {b0 b1:Blk}:LENB [b0,b1] 2:=⟨rfl⟩
instance {b0 b1 b2:Blk}:LENB [b0,b1,b2] 3:=⟨rfl⟩
instance {b0 b1 b2 b3:Blk}:LENB [b0,b1,b2,b3] 4:=⟨rfl⟩
instance {b0 b1 b2 b3 b4:Blk}:LENB [b0,b1,b2,b3,b4] 5:=⟨rfl⟩
instance {b0 b1 b2 b3 b4 b5:Blk}:LENB [b0,b1,b2,b3,b4,b5] 6:=⟨rfl⟩
instance {b0 b1 b2 b3 b4 b5 b6:Blk}:LENB [b0,b1,b2,b3,b4,b5,b6] 7:=⟨rfl⟩
instance {b0 b1 b2 b3 b4 b5 b6 b7:Blk}:LENB [b0,b1,b2,b3,b4,b5,b6,b7] 8:=⟨rfl⟩
instance {b0 b1 b2 b3 b4 b5 b6 b7 b8:Blk}:LENB [b0,b1,b2,b3,b4,b5,b6,b7,b8] 9:=⟨rfl⟩
instance {b0 b1 b2 b3 b4 b5 b6 b7 b8 b9:Blk}:LENB [b0,b1,b2,b3,b4,b5,b6,b7,b8,b9] 10:=⟨rfl⟩
instance {b0 b1 b2 b3 b4 b5 b6 b7 b8 b9 b10:Blk}:LENB [b0,b1,b2,b3,b4,b5,b6,b7,b8,b9,b10] 11:=⟨rfl⟩
instance {b0 b1 b2 b3 b4 b5 b6 b7 b8 b9 b10 b11:Blk}:LENB [b0,b1,b2,b3,b4,b5,b6,b7,b8,b9,b10,b11] 12:=⟨rfl⟩
instance {b0 b1 b2 b3 b4 b5 b6 b7 b8 b9 b10 b11 b12:Blk}:LENB [b0,b1,b2,b3,b4,b5,b6,b7,b8,b9,b10,b11,b12] 13:=⟨rfl⟩
instance {b0 b1 b2 b3 b4 b5 b6 b7 b8 b9 b10 b11 b12 b13:Blk}:LENB [b0,b1,b2,b3,b4,b5,b6,b7,b8,b9,b10,b11,b12,b13] 14:=⟨rfl⟩
instance {b0 b1 b2 b3 b4 b5 b6 b7 b8 b9 b10 b11 b12 b13 b14:Blk}:LENB [b0,b1,b2,b3,b4,b5,b6,b7,b8,b9,b10,b11,b12,b13,b14] 15:=⟨rfl⟩
instance {b0 b1 b2 b3 b4 b5 b6 b7 b8 b9 b10 b11 b12 b13 b14 b15:Blk}:LENB [b0,b1,b2,b3,b4,b5,b6,b7,b8,b9,b10,b11,b12,b13,b14,b15] 16:=⟨rfl⟩
instance {b0 b1 b2 b3 b4 b5 b6 b7 b8 b9 b10 b11 b12 b13 b14 b15 b16:Blk}:LENB [b0,b1,b2,b3,b4,b5,b6,b7,b8,b9,b10,b11,b12,b13,b14,b15,b16] 17:=⟨rfl⟩
instance {b0 b1 b2 b3 b4 b5 b6 b7 b8 b9 b10 b11 b12 b13 b14 b15 b16 b17:Blk}:LENB [b0,b1,b2,b3,b4,b5,b6,b7,b8,b9,b10,b11,b12,b13,b14,b15,b16,b17] 18:=⟨rfl⟩
instance {b0 b1 b2 b3 b4 b5 b6 b7 b8 b9 b10 b11 b12 b13 b14 b15 b16 b17 b18:Blk}:LENB [b0,b1,b2,b3,b4,b5,b6,b7,b8,b9,b10,b11,b12,b13,b14,b15,b16,b17,b18] 19:=⟨rfl⟩
instance {b}:CEL (.bool b) [.bool b]:=⟨rfl⟩
instance {k n}:CEL (.int k n) [.int k n]:=⟨rfl⟩
instance {s}:CEL (.str s) [.str s]:=⟨rfl⟩
instance {i o}:CEL (.ptr i o) [.ptr i o]:=⟨rfl⟩
instance {c}:CEL (.fptr c) [.fptr c]:=⟨rfl⟩
instance {k e}:CEL (.sl k e) [.sl k e]:=⟨rfl⟩
instance {q k e}:CEL (.osl q k e) [.osl q k e]:=⟨rfl⟩
instance {a b c d}:CEL (.msl a b c d) [.msl a b c d]:=⟨rfl⟩
instance {a b c d}:CEL (.rsl a b c d) [.rsl a b c d]:=⟨rfl⟩
instance {a b c d e}:CEL (.rptr a b c d e) [.rptr a b c d e]:=⟨rfl⟩
instance {a b c d e}:CEL (.rsuf a b c d e) [.rsuf a b c d e]:=⟨rfl⟩
instance {i}:CEL (.map i) [.map i]:=⟨rfl⟩
instance {f x y}:CEL (.fn f x y) [.fn f x y]:=⟨rfl⟩
instance {t v}:CEL (.iface t v) [.iface t v]:=⟨rfl⟩
instance {g}:CEL (.glob g) [.glob g]:=⟨rfl⟩
instance {i}:CEL (.yld i) [.yld i]:=⟨rfl⟩
class LENV (cs:List AV) (n:Nat):Prop where
 out:cs.length=n
instance:LENV [] 0:=⟨rfl⟩
instance [i:LENV cs n]:LENV (v::cs) (n+1):=⟨by simp [i.out]⟩
class SAME (cs r:List AV):Prop where
 out:cs.length=r.length
instance:SAME [] []:=⟨rfl⟩
instance [i:SAME cs r]:SAME (v::cs) (w::r):=⟨by simp [i.out]⟩
instance (priority:=high) [i:SAME cs r]:SPL 0 cs r cs:=⟨by simp [yx,i.out]⟩
instance:SPL 0 [] r r:=⟨by simp [yx]⟩
instance [i:SPL 0 cs r cs']:SPL 0 (v::cs) (w::r) (v::cs'):=⟨by have:=i.out;simp only [yx,List.take_zero,List.nil_append,Nat.zero_add] at this ⊢;simp only [List.length_cons,List.drop_succ_cons,List.cons_append,this.1,true_and];omega⟩
instance [i:SPL n cs r cs']:SPL (n+1) cs (w::r) (w::cs'):=⟨by have:=i.out;simp only [yx] at this ⊢;rw [show n+1+cs.length=n+cs.length+1 by omega];simp only [List.take_succ_cons,List.drop_succ_cons,List.cons_append,this.1,List.length_cons,true_and];omega⟩
class ZE (P:Program) (t:TypeId) (cs:outParam (List AV)):Prop where
 out:xb P t=some cs
class EFF (P:Program) (o:Oper) (env:List AV) (h:AH) (v:outParam AV) (h':outParam AH):Prop where
 out:zp P o env h=.ok v h'
instance [i0:ZE P t cs] [i6:NRM L L'] [i1:LENB L' n] [i2:APP L' [.cells cs] r']:EFF P ⟨d,.alloc t,t',p,a,gd⟩ env (h0.ext L M) (.ptr (h0.blks.length+n) 0) (h0.ext r' M):=⟨by rw [i6.out,← i2.out];exact e_alloc rfl i0.out i1.out⟩
instance [i0:GT x env v] [i3:TYP P t v v'] [i4:CEL v' cs] [i6:NRM L L'] [i1:LENB L' n] [i2:APP L' [.cells cs] r']:EFF P ⟨d,.box t x,t',p,a,gd⟩ env (h0.ext L M) (.ptr (h0.blks.length+n) 0) (h0.ext r' M):=⟨by rw [i6.out,← i2.out];exact e_box rfl i0.out i3.out i4.out i1.out⟩
instance [i0:Ty P t td k] [i1:GT x env (.ptr (h0.blks.length+j) off)] [i2:GT y env v] [i3:TYP P t v v'] [i4:CEL v' cs] [i5:LENV cs k] [i6:NRM L L'] [i7:NTH j L' (.cells r)] [i8:SPL off cs r cs'] [i9:SETL L' j (.cells cs') r'] :
  EFF P ⟨d,.store t x y,t',p,a,gd⟩ env (h0.ext L M) aundef (h0.ext r' M):=⟨by
 rw [i6.out,← i9.out];exact zT rfl i0 i1.out i2.out i3.out i4.out i5.out i7.out (Nat.ble_eq_true_of_le (by have:=i8.out.2;rw [i5.out] at this;exact this)) i8.out.1⟩
instance [i0:TA P t k] [i1:GT x env (.ptr (h0.blks.length+j) off)] [i2:GT y env (.agg cs)] [i5:LENV cs k] [i6:NRM L L'] [i7:NTH j L' (.cells r)] [i8:SPL off cs r cs'] [i9:SETL L' j (.cells cs') r'] :
  EFF P ⟨d,.store t x y,t',p,a,gd⟩ env (h0.ext L M) aundef (h0.ext r' M):=⟨by
 obtain ⟨td,q1,q2⟩:=i0.out;rw [i6.out,← i9.out];exact zT rfl q1 i1.out i2.out (zb (v:=.agg cs) rfl) rfl i5.out i7.out (Nat.ble_eq_true_of_le (by have:=i8.out.2;rw [i5.out] at this;exact this)) i8.out.1⟩
end
class DST (l:List Oper) (j:Nat) (d:outParam Nat):Prop where
 out:(l[j]?).bind (·.dst)=some d
instance {d:Nat} {o:Op} {t:TypeId} {p:String} {a:Array Edge} {g:Option (Nat×Bool)} {l:List Oper}:DST (⟨some d,o,t,p,a,g⟩::l) 0 d:=⟨rfl⟩
instance {o:Oper} {l:List Oper} {j d:Nat} [i:DST l j d]:DST (o::l) (j+1) d:=⟨by simpa using i.out⟩
class GB (w:AV) (want:Bool) (b:outParam Bool):Prop where
 out:∀ (ops:Array Oper) (o:Oper) (env:List AV) (j d:Nat),o.guard=some (j,want)→(ops[j]?).bind (·.dst)=some d→env[d]?=some w→aG ops o env=some b
instance {b c want:Bool}:GB (gv b (.bool c)) want (b&&(c==want)):=⟨fun _ _ _ _ _ h1 h2 h3=>aG_gv h1 h2 h3⟩
instance {c want:Bool}:GB (.bool c) want (c==want):=⟨fun _ _ _ _ _ h1 h2 h3=>by simp only [aG,h1,h2,h3]⟩
class NE (a b:Nat):Prop where
 out:a ≠ b
instance {n:Nat}:NE 0 (n+1):=⟨by omega⟩
instance {n:Nat}:NE (n+1) 0:=⟨by omega⟩
instance {n m:Nat} [i:NE n m]:NE (n+1) (m+1):=⟨by have:=i.out;omega⟩
class NC (Ns:List Nat) (i:Nat):Prop where
 out:Ns.contains i=false
instance {i:Nat}:NC [] i:=⟨rfl⟩
instance {Ns:List Nat} {n i:Nat} [j:NE i n] [k:NC Ns i]:NC (n::Ns) i:=⟨by have:=k.out;have:=j.out;simp_all⟩
class PAD (n:Nat) (l:List AV) (r:outParam (List AV)):Prop where
 out:l++List.replicate (n - l.length) aundef=r
instance:PAD 0 [] []:=⟨rfl⟩
instance {n:Nat} {r:List AV} [i:PAD n [] r]:PAD (n+1) [] (aundef::r):=⟨by have:=i.out;simp only [List.nil_append,List.length_nil,Nat.sub_zero] at this ⊢;rw [List.replicate_succ,this]⟩
instance {n:Nat} {a:AV} {l r:List AV} [i:PAD n l r]:PAD (n+1) (a::l) (a::r):=⟨by have:=i.out;rw [← this];simp only [List.length_cons,Nat.add_sub_add_right,List.cons_append]⟩
theorem yk (n:Nat) {k:Nat} {l r:List AV} (h:k=n) [i:PAD n l r]:l++List.replicate (k - l.length) aundef=r:=by rw [h];exact i.out
class RL (P:Program) (env:List AV) (h:AH) (rs:List ResultVar) (vs:outParam (List AV)):Prop where
 out:aResL P env h rs=some vs
instance {P:Program} {env:List AV} {h:AH}:RL P env h [] []:=⟨rfl⟩
section
variable {P:Program} {env:List AV} {h:AH} {rs:List ResultVar} {vs cs cs' r:List AV} {t a k j:Nat} {L L':List Blk} {M:List Nat} {v v':AV} {td:TypeDesc}
instance [i:GT (.tmp t) env v] [j:RL P env h rs vs]:RL P env h (.tmp t::rs) (v::vs):=⟨rl_tmp i.out j.out⟩
instance [i0:Ty P t td k] [i4:NA td] [i1:GT (.tmp a) env (.ptr (h.blks.length+j) 0)] [i6:NRM L L'] [i2:NTH j L' (.cells (v::cs))] [i5:TYP P t v v'] [i7:RL P env (h.ext L M) rs vs]:RL P env (h.ext L M) (.cell a t::rs) (v'::vs):=⟨rl_cell i0 i1.out (by rw [i6.out];exact i2.out) (by rw [i4.out];exact zW rfl) i5.out i7.out⟩
instance [i0:TA P t k] [i1:GT (.tmp a) env (.ptr (h.blks.length+j) 0)] [i6:NRM L L'] [i2:NTH j L' (.cells cs)] [i3:LENV cs k] [i7:RL P env (h.ext L M) rs vs]:RL P env (h.ext L M) (.cell a t::rs) (.agg cs::vs):=⟨by
 obtain ⟨td,q1,q2⟩:=i0.out;have h2:=i3.out;exact rl_cell q1 i1.out (by rw [i6.out];exact i2.out) (by rw [q2];exact ldC_ag (Nat.ble_eq_true_of_le (by omega)) (by rw [← h2];simp)) (zb (v:=.agg cs) rfl) i7.out⟩
class TU (vs:List AV) (v:outParam AV):Prop where
 out:∀ (P:Program) (fn:Func) (env:List AV) (h:AH),aResL P env h fn.results.toList=some vs→aRes P fn env h=some v
instance:TU [] (.tup []):=⟨fun P fn env h e=>by simp only [aRes,e]⟩
instance:TU [v] v:=⟨fun P fn env h e=>by simp only [aRes,e]⟩
instance:TU (v::v'::vs) (.tup (v::v'::vs)):=⟨fun P fn env h e=>by simp only [aRes,e]⟩
theorem fr {fn:Func} {K:AV→AH→Prop} {h0:AH} (hr:fn.results=⟨rs⟩) [i:RL P env h rs vs] [j:TU vs v] (hk:finK h0 K v h):bodyQ P fn h0 K .ret env h:=by
 have h2:=j.out P fn env h (by rw [hr];exact i.out);simp only [bodyQ,h2];exact hk
theorem fe {fn:Func} (hr:fn.results=⟨rs⟩) [i:RL P env (h.ext L M) rs vs] [j:TU vs v] (hl:v'.low h.blks.length h.toks.length=true) (hv:leV v v'):bodyQ P fn h (fun rr hh=>rr=v'∧hh=h) .ret env (h.ext L M):=fr hr (wr hv hl ⟨rfl,rfl⟩)
theorem fz {fn:Func} (hr:fn.results=⟨rs⟩) [i:RL P env (h.ext L M) rs vs] [j:TU vs v] (hl:v.low h.blks.length h.toks.length=true):bodyQ P fn h (fun rr hh=>rr=v∧hh=h) .ret env (h.ext L M):=fe hr hl (leV.refl _)
end
class ARGS (P:Program) (env:List AV) (q:Bool) (xs:List Operand) (ts:List TypeId) (vs:outParam (List AV)):Prop where
 out:q=true→∃ l,argo env xs ts=some l∧Fx P l vs
section
variable {P:Program} {env env' xs' vs fs cs:List AV} {q:Bool} {xs:List Operand} {ts:List TypeId} {t:TypeId} {x:Operand} {v v':AV} {d:Option Tmp} {p:String} {a:Array Edge} {g:FuncId} {h h':AH} {gd:Option (Nat×Bool)} {rest:List Oper} {Q:List AV→AH→Prop} {ops:Array Oper}
instance:ARGS P env q [] [] []:=⟨fun _=>⟨[],rfl,.nil⟩⟩
instance [i:GG x env q v] [j:TYP P t v v'] [k:ARGS P env q xs ts vs]:ARGS P env q (x::xs) (t::ts) (v'::vs):=⟨fun hb=>by
 obtain ⟨l,h1,h2⟩:=k.out hb;exact ⟨_,ya (i.out hb) h1,.cons j.out h2⟩⟩
theorem sc [i:ARGS P env q xs ts vs] (hb:q=true):zp P ⟨d,.call ⟨.value (.func g),List.toArray xs,List.toArray ts⟩,t,p,a,gd⟩ env h=.call g vs:=by
 obtain ⟨l,h1,h2⟩:=i.out hb;exact wp rfl rfl rfl h1 h2
theorem scC [i0:GG x env q (.fn (.func g) fs cs)] [i:ARGS P env q xs ts vs] (hb:q=true):zp P ⟨d,.call ⟨.value x,List.toArray xs,List.toArray ts⟩,t,p,a,gd⟩ env h=.call g (fs++vs++cs):=by
 obtain ⟨l,h1,h2⟩:=i.out hb;exact s_callC rfl rfl (i0.out hb) h1 h2 rfl
theorem cp [i:ARGS P env true xs ts vs] [j:ST d env v env'] (hs:Spec P g vs h fun r h'=>r=v∧h'=h) (hk:zB P ops Q rest env' h):zB P ops Q (⟨d,.call ⟨.value (.func g),List.toArray xs,List.toArray ts⟩,t,p,a,none⟩::rest) env h :=
 yD rfl (sc rfl) hs j.out hk
end
theorem oi {α:Type} {a b:α} (h:some a=some b):a=b:=Option.some.inj h
class LENA (a:AV) (n:outParam Nat):Prop where
 out:aLen a=some n
section
variable {α:Type} {z n i t q' p k':Nat} {row:α→List AV} {L:List α} {es:List (List AV)} {qo:Option Nat}
instance:LENA (.sl z (L.map row)) L.length:=⟨qt⟩
instance:LENA (.osl qo z (L.map row)) L.length:=⟨lenMapO⟩
instance (priority:=low):LENA (.sl z es) es.length:=⟨rfl⟩
instance (priority:=low):LENA (.osl qo z es) es.length:=⟨rfl⟩
instance:LENA (.rsl i t z n) n:=⟨rfl⟩
instance:LENA (.msl z i t n) n:=⟨rfl⟩
instance:LENA (.rsuf i t z n p) (n - p):=⟨rfl⟩
end
class ISS (d:TypeDesc):Prop where
 out:d=.string
instance:ISS .string:=⟨rfl⟩
class LN (P:Program) (t:TypeId) (v:AV) (n:outParam Nat):Prop where
 out:∀ (o:Oper) (env:List AV) (h:AH) (c:Call) (x:Operand),o.op=.call c→c.callee=.builtin .len→c.args=#[x]→c.argTypes=#[t]→z7 env x=some v→zp P o env h=.len n (.int .i64 n) h
instance {P:Program} {t:TypeId} {d:TypeDesc} {k:Nat} {s:List UInt8} [i:Ty P t d k] [j:ISS d]:LN P t (.str s) s.length:=⟨fun o env h c x h1 h2 h3 h4 h5=>by
 have:=j.out;subst this;exact s_lenStr h1 h2 h3 h4 i h5⟩
instance {P:Program} {t e:TypeId} {k n:Nat} {v:AV} [i:El P t e k] [j:LENA v n]:LN P t v n:=⟨fun o env h c x h1 h2 h3 h4 h5=>wG h1 h2 h3 h4 i h5 j.out⟩
class ISL (a:AV) (α:outParam Type) (z:outParam Nat) (row:outParam (α→List AV)) (L:outParam (List α)):Prop where
 out:IsSl a z row L
instance {α:Type} {z:Nat} {row:α→List AV} {L:List α}:ISL (.sl z (L.map row)) α z row L:=⟨isl⟩
instance {α:Type} {q:Option Nat} {z:Nat} {row:α→List AV} {L:List α}:ISL (.osl q z (L.map row)) α z row L:=⟨iosl⟩
section
variable {P:Program} {env env':List AV} {q want b:Bool} {t t' e:TypeId} {x i:Operand} {v v' w:AV} {d:Option Tmp} {p:String} {a:Array Edge} {h:AH} {rest l:List Oper} {Q:List AV→AH→Prop} {ops:Array Oper} {n j m z:Nat} {nn:Int} {k:IntKind} {α:Type} {row:α→List AV} {L:List α} {y:α} {Ns:List Nat} {F:Nat→AH→Prop} {i9:Nat}
theorem ln [i1:GT x env v] [i2:LN P t v n] [i3:ST d env (.int .i64 n) env'] (hk:n≤maxLen→zB P ops Q rest env' h):zB P ops Q (⟨d,.call ⟨.builtin .len,List.toArray [x],List.toArray [t]⟩,t',p,a,none⟩::rest) env h :=
 ops_len rfl (i2.out _ _ _ _ _ rfl rfl rfl rfl i1.out) i3.out hk
theorem lng [j1:DST l j m] [j2:GT (.tmp m) env w] [j3:GB w want b] [i1:GG x env b v] [i2:LN P t v n] [i3:ST d env (gv b (.int .i64 n)) env'] (hk:(b=true→n≤maxLen)→zB P (List.toArray l) Q rest env' h) :
  zB P (List.toArray l) Q (⟨d,.call ⟨.builtin .len,List.toArray [x],List.toArray [t]⟩,t',p,a,some (j,want)⟩::rest) env h :=
 ops_glen (j3.out _ _ _ _ _ rfl (by simpa using j1.out) j2.out) (fun hb=>i2.out _ _ _ _ _ rfl rfl rfl rfl (i1.out hb)) i3.out hk
theorem ix [i0:El P t e z] [i1:GT x env v] [i2:GT i env (.int k nn)] [i3:ISL v α z row L] (hy:yo L nn=some y) [i4:ST d env (.fptr (row y)) env'] (hk:zB P ops Q rest env' h):zB P ops Q (⟨d,.indexAddr t x i,t',p,a,none⟩::rest) env h :=
 zc rfl (s_idxRow rfl i0 i1.out i2.out i3.out hy) i4.out hk
theorem gix [Inhabited α] [j1:DST l j m] [j2:GT (.tmp m) env w] [j3:GB w want b] [i0:El P t e z] [i1:GG x env b v] [i2:GG i env b (.int k nn)] [i3:ISL v α z row L] (hy:b=true→0≤nn∧nn < L.length) [i4:ST d env (gv b (.fptr (row (L.getD nn.toNat default)))) env'] (hk:zB P (List.toArray l) Q rest env' h) :
  zB P (List.toArray l) Q (⟨d,.indexAddr t x i,t',p,a,some (j,want)⟩::rest) env h :=
 qN (j3.out _ _ _ _ _ rfl (by simpa using j1.out) j2.out) (fun hb=>s_gidxRow default rfl i0 (i1.out hb) (i2.out hb) i3.out (hy hb)) i4.out hk
theorem dgix [Inhabited α] [NC Ns i9] [j1:DST l j m] [j2:GT (.tmp m) env w] [j3:GB w want b] [i0:El P t e z] [i1:GG x env b v] [i2:GG i env b (.int k nn)] [i3:ISL v α z row L] (hy:b=true→0≤nn∧nn < L.length) [i4:ST d env (gv b (.fptr (row (L.getD nn.toNat default)))) env'] (hk:zP P (List.toArray l) Ns F Q (i9+1) rest env' h) :
  zP P (List.toArray l) Ns F Q i9 (⟨d,.indexAddr t x i,t',p,a,some (j,want)⟩::rest) env h :=
 qy NC.out (j3.out _ _ _ _ _ rfl (by simpa using j1.out) j2.out) (fun hb=>s_gidxRow default rfl i0 (i1.out hb) (i2.out hb) i3.out (hy hb)) i4.out hk
theorem dix [NC Ns i9] [i0:El P t e z] [i1:GT x env v] [i2:GT i env (.int k nn)] [i3:ISL v α z row L] (hy:yo L nn=some y) [i4:ST d env (.fptr (row y)) env'] (hk:zP P ops Ns F Q (i9+1) rest env' h):zP P ops Ns F Q i9 (⟨d,.indexAddr t x i,t',p,a,none⟩::rest) env h :=
 zx NC.out rfl (s_idxRow rfl i0 i1.out i2.out i3.out hy) i4.out hk
end
abbrev yb (v:AV) (h:AH):AV→AH→Prop:=fun rr hh=>rr=v∧hh=h
class LEV (a b:AV):Prop where
 out:leV a b
class LEL (a b:List AV):Prop where
 o:leL a b
instance {a:AV}:LEV a a:=⟨leV.refl _⟩
instance {q:Option Nat} {k:Nat} {e:List (List AV)}:LEV (.osl q k e) (.sl k e):=⟨leV.osl _ _ _⟩
instance:LEL [] []:=⟨leL.nil⟩
instance {a:AV} {r s:List AV} [i:LEL r s]:LEL (a::r) (.any::s):=⟨.drop i.o⟩
instance {a b:AV} {r s:List AV} [j:LEV a b] [i:LEL r s]:LEL (a::r) (b::s):=⟨.cons j.out i.o⟩
instance {l r:List AV} [i:LEL l r]:LEV (.tup l) (.tup r):=⟨.tup i.o⟩
class R (p:Prop) (G:outParam Prop):Prop where
 r:G→p
instance (priority:=low) R.refl {p:Prop}:R p p:=⟨id⟩
section
variable {P:Program} {ops:Array Oper} {F:Nat→AH→Prop} {Q:List AV→AH→Prop} {QS:Exit→List AV→AH→Prop} {rest l:List Oper} {env env':List AV} {h h0 h':AH} {G:Prop} {d:Option Tmp} {op:Op} {t:TypeId} {p:String} {a:Array Edge} {x:Operand} {v v' w:AV} {id i j n:Nat} {A B:Code} {want b:Bool} {N:List AV→AH→Prop}
instance [i2:ONE P ⟨d,op,t,p,a,none⟩ env h true v] [i3:ST d env v env'] [i4:R (zB P ops Q rest env' h) G]:R (zB P ops Q (⟨d,op,t,p,a,none⟩::rest) env h) G:=⟨fun hG=>zc rfl (i2.out rfl) i3.out (i4.r hG)⟩
instance [i2:ONE P ⟨d,op,t,p,a,none⟩ env h true v] [i3:ST d env v env'] [i4:R (zP P ops [] F Q (i+1) rest env' h) G]:R (zP P ops [] F Q i (⟨d,op,t,p,a,none⟩::rest) env h) G:=⟨fun hG=>zx rfl rfl (i2.out rfl) i3.out (i4.r hG)⟩
instance [i1:DST l j n] [i5:GT (.tmp n) env w] [i6:GB w want b] [i2:ONE P ⟨d,op,t,p,a,some (j,want)⟩ env h b v] [i3:ST d env (gv b v) env'] [i4:R (zB P (List.toArray l) Q rest env' h) G]:R (zB P (List.toArray l) Q (⟨d,op,t,p,a,some (j,want)⟩::rest) env h) G:=⟨fun hG=>qN (i6.out _ _ _ _ _ rfl (by simpa using i1.out) i5.out) i2.out i3.out (i4.r hG)⟩
instance [i1:DST l j n] [i5:GT (.tmp n) env w] [i6:GB w want b] [i2:ONE P ⟨d,op,t,p,a,some (j,want)⟩ env h b v] [i3:ST d env (gv b v) env'] [i4:R (zP P (List.toArray l) [] F Q (i+1) rest env' h) G]:R (zP P (List.toArray l) [] F Q i (⟨d,op,t,p,a,some (j,want)⟩::rest) env h) G:=⟨fun hG=>qy rfl (i6.out _ _ _ _ _ rfl (by simpa using i1.out) i5.out) i2.out i3.out (i4.r hG)⟩
instance [i2:EFF P ⟨d,op,t,p,a,none⟩ env h v h'] [i3:ST d env v env'] [i4:R (zB P ops Q rest env' h') G]:R (zB P ops Q (⟨d,op,t,p,a,none⟩::rest) env h) G:=⟨fun hG=>zc rfl i2.out i3.out (i4.r hG)⟩
instance [i:R (Q env h) G]:R (zB P ops Q [] env h) G:=⟨fun hG=>ops_nil (i.r hG)⟩
instance {Ns:List Nat} {i:Nat} [j:R (Q env h) G]:R (zP P ops Ns F Q i [] env h) G:=⟨fun hG=>draw_nil (j.r hG)⟩
instance (priority:=low) {Ns:List Nat} [i0:NC Ns i] [i2:ONE P ⟨d,op,t,p,a,none⟩ env h true v] [i3:ST d env v env'] [i4:R (zP P ops Ns F Q (i+1) rest env' h) G]:R (zP P ops Ns F Q i (⟨d,op,t,p,a,none⟩::rest) env h) G:=⟨fun hG=>zx i0.out rfl (i2.out rfl) i3.out (i4.r hG)⟩
instance (priority:=low) {Ns:List Nat} [i0:NC Ns i] [i1:DST l j n] [i5:GT (.tmp n) env w] [i6:GB w want b] [i2:ONE P ⟨d,op,t,p,a,some (j,want)⟩ env h b v] [i3:ST d env (gv b v) env'] [i4:R (zP P (List.toArray l) Ns F Q (i+1) rest env' h) G]:R (zP P (List.toArray l) Ns F Q i (⟨d,op,t,p,a,some (j,want)⟩::rest) env h) G:=⟨fun hG=>qy i0.out (i6.out _ _ _ _ _ rfl (by simpa using i1.out) i5.out) i2.out i3.out (i4.r hG)⟩
instance [i:R (qd P A (seqQ P h B QS) env h) G]:R (qd P (.seq A B) QS env h) G:=⟨fun k=>r_seq (i.r k)⟩
instance [i:R (zB P (List.toArray l) (QS .normal) l env h) G]:R (qd P (.region id (List.toArray l) false) QS env h) G:=⟨fun k=>r_region (i.r k)⟩
instance [i:R (qd P A (blockQ id QS) env h) G]:R (qd P (.block id A) QS env h) G:=⟨fun k=>r_block (i.r k)⟩
instance [i:R (QS .normal env h) G]:R (qd P .skip QS env h) G:=⟨fun k=>r_skip (i.r k)⟩
instance [i:R (QS .normal env h) G]:R (qd P (.label id) QS env h) G:=⟨fun k=>r_label (i.r k)⟩
instance [i:R (QS .ret env h) G]:R (qd P .ret QS env h) G:=⟨fun k=>r_ret (i.r k)⟩
instance [i:R (QS (.exit id) env h) G]:R (qd P (.exit id) QS env h) G:=⟨fun k=>r_exit (i.r k)⟩
instance [i:R (qd P B QS env h) G]:R (seqQ P h0 B QS .normal env h) G:=⟨fun k=>q_seq (i.r k)⟩
instance [i:R (QS .ret env h) G]:R (seqQ P h0 B QS .ret env h) G:=⟨fun k=>q_seq_ret (i.r k)⟩
instance [i:R (QS (.exit id) env h) G]:R (seqQ P h0 B QS (.exit id) env h) G:=⟨fun k=>q_seq_exit (i.r k)⟩
instance [i:R (QS .normal env h) G]:R (blockQ id QS .normal env h) G:=⟨fun k=>q_block (i.r k)⟩
instance [i:R (QS .ret env h) G]:R (blockQ id QS .ret env h) G:=⟨fun k=>q_block_ret (i.r k)⟩
instance [i:R (QS .normal env h) G]:R (blockQ id QS (.exit id) env h) G:=⟨fun k=>q_block_hit (i.r k)⟩
instance [i:R (QS .ret env h) G]:R (loopQ N QS .ret env h) G:=⟨fun k=>q_loop_ret (i.r k)⟩
instance [i:R (QS (.exit id) env h) G]:R (loopQ N QS (.exit id) env h) G:=⟨fun k=>q_loop_exit (i.r k)⟩
instance [i:R (N env h) G]:R (loopQ N QS .normal env h) G:=⟨fun k=>q_loop (i.r k)⟩
instance {fn:Func} {K:AV→AH→Prop} [i:R (bodyQ P fn h0 K .ret env h) G]:R (bodyQ P fn h0 K .normal env h) G:=⟨fun k=>q_end (i.r k)⟩
end
end Go.Vv
