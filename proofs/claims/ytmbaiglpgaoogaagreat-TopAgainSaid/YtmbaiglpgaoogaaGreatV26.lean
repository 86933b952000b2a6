/- Joined, as they were built one by one: RgM BlkNew. -/
import Derived.Maps.RangeWalk
import Derived.Test.YtmbaiglpgaoogaaGreatV02
import Derived.Test.YtmbaiglpgaoogaaGreatV09
import Derived.Test.YtmbaiglpgaoogaaGreatV12
import Derived.Test.YtmbaiglpgaoogaaGreatV16
namespace Go.Proofs.YtmbaiglpgaoogaaGreat
open Go.RowKit
set_option linter.unusedVariables false
set_option maxRecDepth 100000
def RgP (P:Program) (k:TypeId) (b r n:Nat) (D:DataW Value) (left:Lit->Bool) (cnt:Nat):SP:=fun h=> ∃ o1 o2,(Ow b o1*Ow r o2) h/\ ∃ es clock since seen c0,o1 = .map es clock/\o2 = .mapIter (some b) since seen c0/\
 Go.WideElems.Fit P k heldR es clock/\es.size<=n/\D = .map ((es.toList.map (Go.WideElems.rg P k heldR)).foldr DataW.insert [])/\(∀ x ∈ es.toList,x.born<since)/\(leftOf es seen).size=cnt/\
 (∀ x ∈ es.toList,left (Go.WideElems.rg P k heldR x).1 = !seen.contains x.born)/\(∀ kl,left kl=true-> ∃ x ∈ es.toList,(Go.WideElems.rg P k heldR x).1=kl)/\since<=c0/\since<=clock
section
variable {P:Program} {k t e:TypeId} {b r n cnt cnt':Nat} {D:DataW Value} {left left':Lit->Bool} {w0 w w':World} {F:SP}
theorem Sat.rg_cases (h:Sat w0 (RgP P k b r n D left cnt*F) w): ∃ o1 o2,Sat w0 (Ow b o1*(Ow r o2*F)) w/\w.ranges P k heldR b r n D left cnt:=by
 obtain⟨c,x,h1,a,g,h2,h3,⟨o1,o2,h4,es,clock,since,seen,c0,rfl,rfl,h5⟩,h8⟩:=h;have hs:Sat w0 (Ow b (.map es clock)*Ow r (.mapIter (some b) since seen c0)*F) w:=⟨c,x,h1,a,g,h2,h3,h4,h8⟩;have hs2:=hs.of (star_assoc _ _ _);obtain⟨h6,h7,h9,h10,h11,h12,h13,h14,h15⟩:=h5;exact⟨_,_,hs2,es,clock,since,seen,c0,hs2.block,h6,h7,h9,hs2.up2.block,h10,h11,h12,h13,h14,h15⟩
theorem Sat.rg (h:Sat w0 (RgP P k b r n D left cnt*F) w):w.ranges P k heldR b r n D left cnt:=by
 obtain⟨_,_,_,h1⟩:=h.rg_cases;exact h1
theorem Sat.rgI {o1 o2:Obj} (h:Sat w0 (Ow b o1*(Ow r o2*F)) w) (hr:w.ranges P k heldR b r n D left cnt):Sat w0 (RgP P k b r n D left cnt*F) w:=by
 obtain⟨es,clock,since,seen,c0,hb,h6,h7,h9,hi,h10,h11,h12,h13,h14,h15⟩:=hr;have e1:=h.block;rw[hb] at e1;have e2:=h.up2.block;rw[hi] at e2;injection e1 with e1
 injection e2 with e2
 subst e1;subst e2;have h':=h.of (star_assoc _ _ _).symm;exact h'.mono fun y ⟨a,g,k1,k2,k3,k4⟩=>⟨a,g,k1,k2,⟨_,_,k3,es,clock,since,seen,c0,rfl,rfl,h6,h7,h9,h10,h11,h12,h13,h14,h15⟩,k4⟩
theorem Sat.rg_start {o:Obj} (h:Sat w0 (Ow b o*F) w) (hr:w'.ranges P k heldR b w.heap.size n D left cnt) (hg:w.grownBy w' none) (hs:w'.heap.size=w.heap.size+1):Sat w0 (RgP P k b w.heap.size n D left cnt*F) w':=by
 have hr1:=hr;obtain⟨_,_,_,_,_,_,_,_,_,hit,_⟩:=hr1;have kc:Chg No w w':=⟨hg.os,hg.tape,hg.output,hg.size,fun k hk _=>hg.block k hk (by simp)⟩;exact Sat.rgI (h.take kc (Nat.le_refl _) hit).up2 hr
theorem Sat.rg_next (h:Sat w0 (RgP P k b r n D left cnt*F) w) (hg:w.grownBy w' (some r)) (hr:w'.ranges P k heldR b r n D left' cnt'):Sat w0 (RgP P k b r n D left' cnt'*F) w':=by
 obtain⟨o1,o2,h1,_⟩:=h.rg_cases;obtain⟨o',h2⟩:=h1.up2.turnAny ((Chg.of_grown hg).mono fun i _ hi=>Option.some.inj hi);exact Sat.rgI h2.up2 hr
theorem Sat.rg_end {f:Int->Option Value} (h:Sat w0 (RgP P k b r n D left cnt*F) w) (hs:Says D f):Sat w0 (MapP P k b n f*F) w:=by
 obtain⟨o1,o2,h1,es,clock,since,seen,c0,hb,h6,h7,h9,hi,_⟩:=h.rg_cases;have h2:=h1.drop2;have e1:=h2.block;rw[hb] at e1;injection e1 with e1
 subst e1;exact Sat.mapI h2 h6 h7 (h9 ▸ hs)
theorem Sat.map_obj {f:Int->Option Value} (h:Sat w0 (MapP P k b n f*F) w): ∃ o,Sat w0 (Ow b o*F) w/\ ∃ D,w.ownsMap P k heldR b n D/\Says D f:=by
 obtain⟨es,clock,h1,h2,h3,h4⟩:=h.map_cases;exact⟨_,h1,_,⟨es,clock,h1.block,h2,h3,rfl⟩,h4⟩
theorem Sat.mapS_obj {f:List UInt8->Option Value} (h:Sat w0 (MapS P k b n f*F) w): ∃ o,Sat w0 (Ow b o*F) w/\ ∃ D,w.ownsMap P k heldR b n D/\SaysS D f:=by
 obtain⟨es,clock,h1,h2,h3,h4⟩:=h.mapS_cases;exact⟨_,h1,_,⟨es,clock,h1.block,h2,h3,rfl⟩,h4⟩
end
theorem saysS_has {D:DataW Value} {f:List UInt8->Option Value} (hs:SaysS D f) {i:List UInt8} (h:Maps.has D (.string i)=false):f i=none:=by
 cases hf:f i with
 | none=>rfl
 | some v=>
  have h2:=hs i .nil;rw[Maps.atKey_of_not_has h,hf] at h2
  cases h2
theorem saysS_at {D:DataW Value} {f:List UInt8->Option Value} (hs:SaysS D f) {x:List UInt8} {c:Value} (h: ∀ zd,D.atKey (.string x) zd = .held c):f x=some c:=by
 have h1:=hs x .nil;rw[h] at h1
 cases hf:f x with
 | none=>rw[hf] at h1;cases h1
 | some v=>rw[hf] at h1;injection h1 with h1;rw[h1]
def NewD (n:Int) (w0:World) (F:SP) (e:Ending) (w':World):Prop:=
 if 2<=n/\n<=65536 then ∃ d,e = .returned (.tuple #[.pointer (some ⟨d,0,none⟩),.int .i64 0])/\Sat w0 (Disk d (Dk.new n.toNat)*F) w'
 else e = .returned (.tuple #[.pointer none,.int .i64 20])/\Sat w0 F w'
theorem info_cell:(Tryz.prog.info? 142).map (fun i=>(i.zero,i.size,i.bytes))=some (some (.agg #[.slice none 0 0,.bool false]),2,32):=by kernel_rfl
def blanks (n:Nat):Array Value:=((List.replicate n (((none,0,[]):Slc),false)).flatMap cellV).toArray
theorem blanks_made (n:Nat):madeCells #[.slice none 0 0,.bool false] (n*2)=blanks n:=by
 apply Array.ext';apply List.ext_getElem?;intro j;have hl:(List.replicate n (((none,0,[]):Slc),false)).length=n:=by simp
 have hf:=flat2 (f:=cellV) (fun _=>rfl) (List.replicate n (((none,0,[]):Slc),false)) (j / 2) (j % 2);have hfl:=flat2_len (f:=cellV) (fun _=>rfl) (List.replicate n (((none,0,[]):Slc),false));rw[hl] at hfl;unfold blanks madeCells;by_cases h:j<n*2
 .have h1:=hf (by rw[hl];omega) (by omega);rw[show j / 2*2+j % 2=j by omega] at h1;simp only[List.getElem_replicate] at h1;rw[List.toList_toArray,h1];simp[h];rcases Nat.mod_two_eq_zero_or_one j with e | e<;>rw[e]<;>rfl
 .rw[List.getElem?_eq_none (by simp;omega),List.getElem?_eq_none (by rw[hfl];omega)]
theorem make_cells (n:Nat) (hn:n<=65536) (W:World):(Instr.makeSlice 97 (.int .i64 (n:Int)) (.int .i64 (n:Int))).run Tryz.prog W=
  .ok (.slice (some ⟨W.heap.size,0,none⟩) n n) (W.alloc (.cells (blanks n) 142)):=by
 obtain⟨i0,hi,hz0,hz1,hz2⟩:=info_parts info_cell;have hr:=run_make (P:= Tryz.prog) W 97 142 i0 _ Tryz.underlying97 hi hz0 .i64 .i64 n n (by omega) (by omega) (by rw[hz2];omega) (by omega);have hc:(Value.agg #[.slice none 0 0,.bool false]).cells = #[.slice none 0 0,.bool false]:=rfl;simpa [hz1,hc,blanks_made] using hr
theorem new_any (n:Int) (w0 w:World) (F:SP) (h:Sat w0 F w):Calls Tryz.prog 16 #[.int .i64 n] w (NewD n w0 F):=by
 by_cases h1:2<=n/\n<=65536
 .obtain⟨k,rfl⟩: ∃ k:Nat,n=k:=⟨n.toNat,by omega⟩;have hmk:=make_cells k (by omega);have hmm:= @run_makeMap Tryz.prog;have hk1:¬ (k:Int)<2:=by omega
  have hk2:¬ (65536:Int)<k:=by omega
  have HS:=ah h;have HK:=ah h1;clear h h1;go_enter Tryz.func16, Tryz.ntmps16;go_wp2_with fail;go_ret2;unfold NewD;rw[if_pos HK.o];refine⟨_,rfl,?_⟩;have h1:=(HS.o.rolNil ((List.replicate k (((none,0,[]):Slc),false)).map (·.1)++([]:List (Nat × Slc)).map (·.2)) (fun r hr=>by simp at hr;rw[hr.2])).allocPt 142 (blanks k);have h2:=h1.map_new (P:= Tryz.prog) (k:= 3);have h3:=h2.allocPt 101 #[.slice (some ⟨w.heap.size,0,none⟩) k k,.slice none 0 0,.map (some (w.alloc (.cells (blanks k) 142)).heap.size),.int .i64 0,.int .i64 0,.bool false];have h4:=h3.row_nil 140 2;have e5:(blanks k).toList.take (k*2)=(List.replicate k (((none,0,[]):Slc),false)).flatMap cellV:=by
   unfold blanks;refine List.take_of_length_le ?_;rw[flat2_len (fun _=>rfl),List.length_replicate];exact Nat.le_refl _
  have h5:=(h4.up4).row_pt (n:=k) (cap:=k) (size:=2) (Nat.le_refl _) (by have:(2:Int)<=k/\(k:Int)<=65536:=HK.o;unfold maxLen;omega) (by unfold blanks;rw[List.size_toArray,flat2_len (fun _=>rfl),List.length_replicate]);rw[e5] at h5;rw[Int.toNat_natCast];have hb:(2:Int)<=k/\(k:Int)<=65536:=HK.o;refine Sat.diskI (D:=Dk.new k) (C:=w.heap.size) (cc:=k) (M:=(w.alloc (.cells (blanks k) 142)).heap.size) (nm:=0) (vp:= .slice none 0 0) (cs:=List.replicate k (((none,0,[]):Slc),false)) (ps:=[]) ?_ ⟨by simp[Dk.new],rfl,?_,by simp,by simp;omega,by simp;omega⟩ (Nat.le_refl _)
  .refine Sat.of (by simpa using h5) ?_;unfold DiskC;rw[List.length_replicate];show _=_*(_*(Row _ 2 _ 0 []*(MapP _ _ _ _ (fun _=>none)*_)))*_;simp
   ac_rfl
  .intro x hx;simp at hx;rw[hx.2];exact⟨⟨fun _=>⟨rfl,rfl⟩,fun _=>rfl,Nat.le_refl _,by show (0:Nat)<=_;omega⟩,.inl rfl⟩
 .have HS:=ah h;have HK:=ah h1;by_cases h2:n<2
  .clear h h1;go_enter Tryz.func16, Tryz.ntmps16;go_wp2_with fail;go_ret2;unfold NewD;rw[if_neg HK.o];exact⟨rfl,HS.o⟩
  .have h3:65536<n:=by omega
   clear h h1;go_enter Tryz.func16, Tryz.ntmps16;go_wp2_with fail;go_ret2;unfold NewD;rw[if_neg HK.o];exact⟨rfl,HS.o⟩
end Go.Proofs.YtmbaiglpgaoogaaGreat
