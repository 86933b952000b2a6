/- Joined, as they were built one by one: Sto24 StWhMk. -/
import Derived.Test.YtmbaiglpgaoogaaGreatS16
import Derived.Test.YtmbaiglpgaoogaaGreatS25
import Derived.Test.YtmbaiglpgaoogaaGreatS28
import Derived.Test.YtmbaiglpgaoogaaGreatS37
namespace Go.Proofs.YtmbaiglpgaoogaaGreat
open Go.RowKit
set_option linter.unusedVariables false
set_option maxRecDepth 100000
section
variable {w0 w w':World} {F F':SP} {b d n t k a nx:Nat} {M:List Kv} {olds:Int→Option (List Kv)}
theorem swriteNo (A:Option Addr) (c:Nat) (ps:List Pu) (cs:List Chn) (hcs:ps.map Pu.chn=cs) (hk:k≤10000) (ht:t+ps.length≤1024) (ha:a≤9223372036854775807) (h:Sto w0 F b d n t k a nx M olds w)
  (hb: ∀ W,Sat w0 F W→RdV W A (ps.flatMap puC)∧PusR W ps) (hz: ∀ p ∈ ps,p.key.2.2.length≤1000000000∧p.value.2.2.length≤1000000000) (hc:chkB cs≠0):
  Calls Tryz.prog 20 #[.pointer (some ⟨b,0,none⟩),.slice A ps.length c] w fun x w'=>x = .returned (.int .i64 (chkB cs:Nat))∧Sto w0 F b d n t k a nx M olds w':=by
 subst hcs;obtain⟨s,S,v,D,h1,h2,h3,h4⟩:=h;refine(write_st b d s v n t k D S M olds A c ps h1 hk ht (by omega) h4 hb hz).mono ?_;rintro x w' (⟨_,g1,g2⟩ | ⟨g1,_⟩ | ⟨g1,_⟩ | ⟨g1,_⟩)
 ·exact⟨g1,s,S,v,D,h1,h2,h3,g2⟩
 all_goals exact absurd g1 hc
end
theorem made_bv (k:Nat):madeCells #[.int .u8 0] k=((List.replicate k (0:UInt8)).map bv).toArray:=by
 apply Array.ext';rw[List.map_replicate];simp[madeCells,bv,Nat.mod_one,List.map_const']
theorem run_make_ten (n:Nat) (hn:n≤100000) (W:World):(Instr.makeSlice 41 (.int .i64 (n:Int)) (.int .i64 (n:Int))).run Tryz.prog W=
  .ok (.slice (some ⟨W.heap.size,0,none⟩) n n) (W.alloc (.cells (madeCells #[.int .u8 0] n) 5)):=by
 obtain⟨i0,hi,hz0,hz1,hz2⟩:=info_parts info_u8o;have hr:=run_make (P:= Tryz.prog) W 41 5 i0 _ Tryz.underlying41 hi hz0 .i64 .i64 n n (by omega) (by omega) (by rw[hz2];omega) (by omega);have hc:(Value.int .u8 0).cells = #[.int .u8 0]:=rfl;simpa [hz1,hc] using hr
end Go.Proofs.YtmbaiglpgaoogaaGreat
