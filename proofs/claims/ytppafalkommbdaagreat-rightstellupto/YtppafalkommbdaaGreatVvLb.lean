/- Functions of Go's library whose contracts the shelf has: as contracts over abstract values. -/
import Derived.Test.YtppafalkommbdaaGreatVvZ
import Derived.Shelf.Strings.OnBuilder
import Derived.Shelf.Strings.SplitShaped
namespace Go.Vv
set_option linter.unusedVariables false
set_option linter.unusedSimpArgs false
open Go Go.RowKit Go.Proofs Go.Shelf

theorem Rel.beyond {B:Nat} {w0 w w':World} {g:Gh} {h:AH} (r:Rel B w0 g h w) (hb:Below w.heap.size w w'):Rel B w0 g h w' :=
 ⟨r.below.trans (hb.mono r.bsz),Nat.le_trans r.bsz hb.size,fun b j v e=>(hb.cell (p:=⟨b,j,none⟩) (r.phi_lt e)).trans (r.phi b j v e),r.slen,
   fun i c k hc hk=>by
     obtain ⟨h1,h2,h3,h4⟩:=r.blk i c k hc hk
     exact ⟨h1,Nat.lt_of_lt_of_le h2 hb.size,h3.mono (Gh.le.refl g) (hb.block c h2),h4⟩,r.tlen,
   fun i t ht=>by
     obtain ⟨h1,h2⟩:=r.tok i t ht
     exact ⟨h1,fun b l e hl=>(h2 b l e hl).mono hb.size (hb.block b (h2 b l e hl).lt) fun _ _=>rfl⟩,r.sinj,r.tinj,r.sep,fun c hc=>⟨(r.dfr c hc).1,(hb.block c (r.dfr_lt hc)).trans (r.dfr c hc).2.1,(r.dfr c hc).2.2⟩,
   fun i k hi hk=>(r.row i k hi hk).mono (Gh.le.refl g) (fun _ _ h _=>h) (fun i t b x ht _ hl=>⟨hb.block b ((r.tok i t ht).2 b x.1 x.2 hl).lt,fun _=>rfl⟩),r.rinj⟩

def strJoin (xs:List (List UInt8)) (sep:List UInt8):Option (List UInt8):=if xs.length≤140737488355328∧(Lib.join xs sep).length≤140737488355328 then some (Lib.join xs sep) else none

def strSplit (s sep:List UInt8):Option (List (List UInt8)):=if s.length < 4294967281∧1≤sep.length then some (Lib.split s sep) else none

end Go.Vv
