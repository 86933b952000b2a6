/- StoreEnds: the walk. -/
import Derived.Test.YtmbaiglpgaoogaaGreatS37
import Derived.Test.YtmbaiglpgaoogaaGreatS38
import Derived.Test.YtmbaiglpgaoogaaGreatT01
import Derived.Test.YtmbaiglpgaoogaaGreatU01
namespace Go.Proofs.YtmbaiglpgaoogaaGreat
open Go.RowKit
set_option linter.unusedVariables false
set_option maxRecDepth 100000
def nB10 (i:Nat):Chn:=⟨[98,UInt8.ofNat i],List.replicate 16366 0,false⟩
def nC10 (n:Nat):List Chn:=(List.range n).map nB10
theorem nC10_succ (i:Nat):nC10 (i+1)=nC10 i++[nB10 i]:=by
 unfold nC10;rw[List.range_succ,List.map_append];rfl
theorem nB10_siz (i:Nat):sizC (nB10 i)=16384:=by
 unfold sizC nB10;rw[List.length_replicate];rfl
theorem nB10_ok (i:Nat):ChgOk (nB10 i):=⟨by show 1≤2∧2≤128;omega,by show (List.replicate 16366 (0:UInt8)).length≤16384;rw[List.length_replicate];omega,fun h=>by cases h⟩
theorem nC10_siz (n:Nat):(nC10 n).map sizC=(List.range n).map fun _=>16384:=by
 unfold nC10;rw[List.map_map];exact List.map_congr_left fun i _=>nB10_siz i
theorem en_ok:BatOk (nC10 16):=⟨fun p hp=>by
 unfold nC10 at hp;obtain⟨i,_,rfl⟩:=List.mem_map.1 hp;exact nB10_ok i,by rw[nC10_siz];decide⟩
def nC11:List Chn:=(nC10 16).set 0 ⟨[98,0],List.replicate 16367 0,false⟩
theorem nC11_siz:nC11.map sizC=((List.range 16).map fun _=>16384).set 0 16385:=by
 unfold nC11;have e:sizC ⟨[98,0],List.replicate 16367 0,false⟩=16385:=by
  unfold sizC;rw[List.length_replicate];rfl
 rw[List.map_set,nC10_siz,e]
theorem en_chk2:chkB nC11=102:=by
 have hm: ∀ p ∈ nC11,p.key.length=2∧p.value.length≤16384∧p.dead=false:=fun p hp=>by
  rcases List.mem_or_eq_of_mem_set hp with h1 | rfl
  ·unfold nC10 at h1;obtain⟨i,_,rfl⟩:=List.mem_map.1 h1;exact⟨rfl,(nB10_ok i).val,rfl⟩
  ·exact⟨rfl,by rw[List.length_replicate];omega,rfl⟩
 have h1:nC11.any badK=false:=by
  rw[List.any_eq_false];intro p hp;unfold badK;rw[(hm p hp).1];decide
 have h2:nC11.any badV=false:=by
  rw[List.any_eq_false];intro p hp;have h3:=(hm p hp).2.1;unfold badV;rw[(hm p hp).2.2];simp;omega
 unfold chkB;rw[h1,h2,nC11_siz,if_neg (by simp),if_neg (by simp),if_pos (by decide)]
theorem en_chkb:chkB [⟨List.replicate 129 0,[],false⟩]=100:=by decide
theorem en_chkd:chkB [⟨[107],List.replicate 16385 0,false⟩]=101:=by
 have h2:badV ⟨[107],List.replicate 16385 0,false⟩=true:=by
  unfold badV;rw[List.length_replicate];rfl
 unfold chkB;rw[List.any_cons,List.any_cons,h2];rfl
theorem en_chke:chkB [⟨[107],[120],true⟩]=101:=by decide
theorem laiB_siz: ∀ (cs:List Chn),(laiB cs).length≤(cs.map sizC).sum
 | []=>Nat.le_refl _
 | c::cs=>by
  have h1:=laiB_siz cs;rw[laiB_cons,List.length_append,lai1_len,List.map_cons,List.sum_cons];unfold sizC at h1 ⊢;omega
theorem en_room {M:List Kv} {cs:List Chn} (hM: ∀ p ∈ M,p.1.length≤200∧p.2.length≤20000) (hl:M.length+cs.length≤40) (hb:BatOk cs):fullB 16384 (putsM cs M) cs=false:=by
 obtain⟨h1,h2⟩:=putsM_size hb.each hM;have h3:=sizM_le h1;have h4:sizM (putsM cs M)≤40*20240:=Nat.le_trans h3 (Nat.mul_le_mul_right _ (by omega));have h5:=laiB_siz cs;have h6:=hb.sum;unfold fullB;rw[Bool.or_eq_false_iff,decide_eq_false_iff_not,decide_eq_false_iff_not];have e1:imgN 16384=2118:=by decide
 have e2:logN 16384=6073:=by decide
 refine⟨by rw[e1];omega,?_⟩;rw[e2];unfold needN;rw[if_pos (by omega)];omega
section
variable {w0 w w':World} {F F':SP} {b d n t k a nx:Nat} {M:List Kv} {olds:Int→Option (List Kv)}
theorem sNo1 (p:Pu) (g:Nat) (er:Nat) (hc:chkB [p.chn]=er) (h0:er≠0) (hk:k≤10000) (ht:t+1≤1024) (h:Sto w0 (Ow g (.cells #[slv' p.key,slv' p.value,.bool p.dead] 43)*F) b d n t k 0 nx M olds w) (hp: ∀ W,Sat w0 F W→PuR W p) (hz:p.key.2.2.length≤1000000000∧p.value.2.2.length≤1000000000):
  Calls Tryz.prog 20 #[.pointer (some ⟨b,0,none⟩),.slice (some ⟨g,0,none⟩) 1 1] w fun x w'=>x = .returned (.int .i64 (er:Int))∧Sto w0 F b d n t k 0 nx M olds w':=by
 subst hc;refine(swriteNo (some ⟨g,0,none⟩) 1 [p] [p.chn] rfl hk ht (by omega) h (fun W hW=>⟨?_,fun q hq=>?_⟩) (fun q hq=>?_) h0).mono ?_
 ·have h9:=lit_fi (xs:=puC p) hW rfl;rw[List.flatMap_cons,List.flatMap_nil,List.append_nil];exact h9
 ·rw[List.mem_singleton] at hq;subst hq;exact hp W hW.right
 ·rw[List.mem_singleton] at hq;subst hq;exact hz
 ·rintro x w' ⟨rfl,h6⟩;exact⟨rfl,h6.drop⟩
theorem en_a (hk:k≤1000) (ht:t≤500) (h:Sto w0 F b d n t k 0 nx M olds w):
  Calls Tryz.prog 20 #[.pointer (some ⟨b,0,none⟩),.slice (some ⟨w.heap.size,0,none⟩) 1 1] (w.alloc (.cells #[.slice none 0 0,.slice none 0 0,.bool false] 43)) fun x w'=>x = .returned (.int .i64 100)∧Sto w0 F b d n t k 0 nx M olds w':=
 sNo1 ⟨(none,0,[]),(none,0,[]),false⟩ w.heap.size 100 (by decide) (by omega) (by omega) (by omega) (h.al _) (fun W hW=>⟨Rd.nil _ _,Rd.nil _ _⟩) ⟨by show 0≤_;omega,by show 0≤_;omega⟩
theorem made_rd {g m:Nat} {W:World} (h:Sat w0 (Ow g (.cells (madeCells #[.int .u8 0] m) 5)*F) W):Rd W (some ⟨g,0,none⟩) (List.replicate m 0):=ow_rd (l:=List.replicate m 0) (by rw[←made_bv];exact h)
theorem en_b (hk:k≤1000) (ht:t≤500) (h:Sto w0 F b d n t k 0 nx M olds w):
  Calls Tryz.prog 20 #[.pointer (some ⟨b,0,none⟩),.slice (some ⟨w.heap.size+1,0,none⟩) 1 1] ((w.alloc (.cells (madeCells #[.int .u8 0] 129) 5)).alloc (.cells #[.slice (some ⟨w.heap.size,0,none⟩) 129 129,.slice none 0 0,.bool false] 43)) fun x w'=>x = .returned (.int .i64 100)∧Sto w0 F b d n t k 0 nx M olds w':=by
 have h8:=(h.al (.cells (madeCells #[.int .u8 0] 129) 5)).al (.cells #[.slice (some ⟨w.heap.size,0,none⟩) 129 129,.slice none 0 0,.bool false] 43);simp only[World.size_alloc] at h8;generalize w.heap.size=g at*
 refine(sNo1 ⟨(some ⟨g,0,none⟩,129,List.replicate 129 0),(none,0,[]),false⟩ (g+1) 100 en_chkb (by omega) (by omega) (by omega) (h8.of (by unfold slv';rw[List.length_replicate];rfl)) (fun W hW=>⟨made_rd hW,Rd.nil _ _⟩) ⟨by show (List.replicate 129 (0:UInt8)).length≤_;rw[List.length_replicate];omega,by show 0≤_;omega⟩).mono ?_;rintro x w' ⟨rfl,h6⟩;exact⟨rfl,h6.drop⟩
def nP10:Chn:=⟨List.replicate 128 0,List.replicate 16384 0,false⟩
theorem nP10_ok:BatOk [nP10]:=⟨fun q hq=>by
 rw[List.mem_singleton] at hq;subst hq;exact⟨by show 1≤(List.replicate 128 (0:UInt8)).length∧(List.replicate 128 (0:UInt8)).length≤128;rw[List.length_replicate];omega,by show (List.replicate 16384 (0:UInt8)).length≤16384;rw[List.length_replicate];omega,fun h=>by cases h⟩,by
 show sizC nP10+0≤262144;unfold sizC nP10;rw[List.length_replicate,List.length_replicate];omega⟩
theorem en_c (g g1 g2:Nat) (hk:k≤1000) (ht:t≤10) (h:Sto w0 (Ow g (.cells #[.slice (some ⟨g1,0,none⟩) 128 128,.slice (some ⟨g2,0,none⟩) 16384 16384,.bool false] 43)*F) b d 16384 t k 0 nx M olds w) (hp: ∀ W,Sat w0 F W→Rd W (some ⟨g1,0,none⟩) (List.replicate 128 0)∧Rd W (some ⟨g2,0,none⟩) (List.replicate 16384 0)):
  Calls Tryz.prog 20 #[.pointer (some ⟨b,0,none⟩),.slice (some ⟨g,0,none⟩) 1 1] w fun x w'=>x = .returned (.int .i64 0)∧Sto w0 F b d 16384 (t+1) (k+1) 0 nx (putM nP10 M) olds w':=by
 have hp3:=h.pairs;have h6:=swrite1 ⟨(some ⟨g1,0,none⟩,128,List.replicate 128 0),(some ⟨g2,0,none⟩,16384,List.replicate 16384 0),false⟩ g (by omega) (by omega) (h.of (by unfold slv';rw[List.length_replicate,List.length_replicate])) (fun W hW=>hp W hW) (nP10_ok.each _ (List.mem_singleton_self _)) (en_room hp3.2.2 (by show M.length+1≤40;omega) nP10_ok);exact h6
theorem en_d (hk:k≤1000) (ht:t≤500) (h:Sto w0 F b d n t k 0 nx M olds w):
  Calls Tryz.prog 20 #[.pointer (some ⟨b,0,none⟩),.slice (some ⟨w.heap.size+1+1,0,none⟩) 1 1] (((w.alloc (by1 107)).alloc (.cells (madeCells #[.int .u8 0] 16385) 5)).alloc (.cells #[.slice (some ⟨w.heap.size,0,none⟩) 1 1,.slice (some ⟨w.heap.size+1,0,none⟩) 16385 16385,.bool false] 43)) fun x w'=>x = .returned (.int .i64 101)∧Sto w0 F b d n t k 0 nx M olds w':=by
 have h8:=((h.al (by1 107)).al (.cells (madeCells #[.int .u8 0] 16385) 5)).al (.cells #[.slice (some ⟨w.heap.size,0,none⟩) 1 1,.slice (some ⟨w.heap.size+1,0,none⟩) 16385 16385,.bool false] 43);simp only[World.size_alloc] at h8;generalize w.heap.size=g at*
 refine(sNo1 ⟨(some ⟨g,0,none⟩,1,[107]),(some ⟨g+1,0,none⟩,16385,List.replicate 16385 0),false⟩ (g+1+1) 101 en_chkd (by omega) (by omega) (by omega) (h8.of (by unfold slv';rw[List.length_replicate];rfl)) (fun W hW=>⟨ow_rd (l:=[107]) hW.up2,made_rd hW⟩) ⟨by show 1≤_;omega,by show (List.replicate 16385 (0:UInt8)).length≤_;rw[List.length_replicate];omega⟩).mono ?_;rintro x w' ⟨rfl,h6⟩;exact⟨rfl,h6.drop.drop⟩
theorem en_e (hk:k≤1000) (ht:t≤500) (h:Sto w0 F b d n t k 0 nx M olds w):
  Calls Tryz.prog 20 #[.pointer (some ⟨b,0,none⟩),.slice (some ⟨w.heap.size+1+1,0,none⟩) 1 1] (((w.alloc (by1 107)).alloc (by1 120)).alloc (.cells #[.slice (some ⟨w.heap.size,0,none⟩) 1 1,.slice (some ⟨w.heap.size+1,0,none⟩) 1 1,.bool true] 43)) fun x w'=>x = .returned (.int .i64 101)∧Sto w0 F b d n t k 0 nx M olds w':=by
 have h8:=((h.al (by1 107)).al (by1 120)).al (.cells #[.slice (some ⟨w.heap.size,0,none⟩) 1 1,.slice (some ⟨w.heap.size+1,0,none⟩) 1 1,.bool true] 43);simp only[World.size_alloc] at h8;generalize w.heap.size=g at*
 refine(sNo1 ⟨(some ⟨g,0,none⟩,1,[107]),(some ⟨g+1,0,none⟩,1,[120]),true⟩ (g+1+1) 101 en_chke (by omega) (by omega) (by omega) h8 (fun W hW=>⟨ow_rd (l:=[107]) hW.up2,ow_rd (l:=[120]) hW⟩) ⟨by show 1≤_;omega,by show 1≤_;omega⟩).mono ?_;rintro x w' ⟨rfl,h6⟩;exact⟨rfl,h6.drop.drop⟩
def nQ10:List Chn:=[⟨[113],[49],false⟩,⟨[113],[],true⟩,⟨[113],[51],false⟩]
theorem nQ10_ok:BatOk nQ10:=chk_zero.1 (by decide)
theorem nQ10_get {M:List Kv} (h:M.Pairwise kLT):getK [113] (putsM nQ10 M)=some [51]:=by
 rw[putsM_get _ _ h];rfl
theorem en_h (hk:k≤1000) (ht:t≤30) (h:Sto w0 F b d 16384 t k 0 nx M olds w) (hl:M.length≤30):
  Calls Tryz.prog 20 #[.pointer (some ⟨b,0,none⟩),.slice (some ⟨w.heap.size+1+1+1+1+1,0,none⟩) 3 3] ((((((w.alloc (by1 113)).alloc (by1 49)).alloc (by1 113)).alloc (by1 113)).alloc (by1 51)).alloc (.cells #[.slice (some ⟨w.heap.size,0,none⟩) 1 1,.slice (some ⟨w.heap.size+1,0,none⟩) 1 1,.bool false,.slice (some ⟨w.heap.size+1+1,0,none⟩) 1 1,.slice none 0 0,.bool true,.slice (some ⟨w.heap.size+1+1+1,0,none⟩) 1 1,.slice (some ⟨w.heap.size+1+1+1+1,0,none⟩) 1 1,.bool false] 43)) fun x w'=>x = .returned (.int .i64 0)∧Sto w0 F b d 16384 (t+3) (k+1) 0 nx (putsM nQ10 M) olds w':=by
 have hp3:=h.pairs;have h5:=(((((h.al (by1 113)).al (by1 49)).al (by1 113)).al (by1 113)).al (by1 51)).al (.cells #[.slice (some ⟨w.heap.size,0,none⟩) 1 1,.slice (some ⟨w.heap.size+1,0,none⟩) 1 1,.bool false,.slice (some ⟨w.heap.size+1+1,0,none⟩) 1 1,.slice none 0 0,.bool true,.slice (some ⟨w.heap.size+1+1+1,0,none⟩) 1 1,.slice (some ⟨w.heap.size+1+1+1+1,0,none⟩) 1 1,.bool false] 43);simp only[World.size_alloc] at h5;generalize w.heap.size=g at*
 refine(swrite (some ⟨g+1+1+1+1+1,0,none⟩) 3 [⟨(some ⟨g,0,none⟩,1,[113]),(some ⟨g+1,0,none⟩,1,[49]),false⟩,⟨(some ⟨g+1+1,0,none⟩,1,[113]),(none,0,[]),true⟩,⟨(some ⟨g+1+1+1,0,none⟩,1,[113]),(some ⟨g+1+1+1+1,0,none⟩,1,[51]),false⟩] nQ10 rfl (by omega) (by show t+3≤1024;omega) h5 (fun W hW=>⟨lit_fi hW rfl,fun p hp=>?_⟩) (fun p hp=>?_) (chk_zero.2 nQ10_ok) (en_room hp3.2.2 (by show M.length+3≤40;omega) nQ10_ok)).mono ?_
 ·rcases List.mem_cons.1 hp with rfl | hp
  ·exact⟨ow_rd (l:=[113]) hW.up6,ow_rd (l:=[49]) hW.up5⟩
  ·rcases List.mem_cons.1 hp with rfl | hp
   ·exact⟨ow_rd (l:=[113]) hW.up4,Rd.nil _ _⟩
   ·rw[List.mem_singleton] at hp;subst hp;exact⟨ow_rd (l:=[113]) hW.up3,ow_rd (l:=[51]) hW.up2⟩
 ·rcases List.mem_cons.1 hp with rfl | hp
  ·exact⟨by show 1≤_;omega,by show 1≤_;omega⟩
  ·rcases List.mem_cons.1 hp with rfl | hp
   ·exact⟨by show 1≤_;omega,by show 0≤_;omega⟩
   ·rw[List.mem_singleton] at hp;subst hp;exact⟨by show 1≤_;omega,by show 1≤_;omega⟩
 ·rintro x w' ⟨rfl,h6⟩;exact⟨rfl,h6.drop.drop.drop.drop.drop.drop⟩
set_option maxHeartbeats 16000000 in
theorem storeEnds_walk (w:World):Calls Tryz.prog 5 #[] w (Asked true w):=by
 have HNew1:Hid (Calls Tryz.prog 16 #[.int .i64 63] w fun e w'=> ∃ d,e = .returned (.tuple #[.pointer (some ⟨d,0,none⟩),.int .i64 0])∧Sat w (Disk d (Dk.new 63)*Emp) w'):=(new_any 63 w w Emp (Sat.start w)).mono fun e w' h9=>by
  unfold NewD at h9;rw[if_pos (by omega)] at h9;exact h9
 have HFo:Hid (∀ d W,Sat w (Disk d (Dk.new 63)*Emp) W→Calls Tryz.prog 18 #[.pointer (some ⟨d,0,none⟩)] W fun x w'=>x = .returned (.int .i64 103)∧W=w'):=fun d W hW=>format_few hW rfl new_len (by omega)
 have HNew2:Hid (∀ F W,Sat w F W→Calls Tryz.prog 16 #[.int .i64 100] W fun e w'=> ∃ d,e = .returned (.tuple #[.pointer (some ⟨d,0,none⟩),.int .i64 0])∧Sat w (Disk d (Dk.new 100)*F) w'):=fun F W hW=>(new_any 100 w W F hW).mono fun e w' h9=>by
  unfold NewD at h9;rw[if_pos (by omega)] at h9;exact h9
 have HOp:Hid (∀ d F W,Sat w (Disk d (Dk.new 100)*F) W→Calls Tryz.prog 19 #[.pointer (some ⟨d,0,none⟩)] W fun x w'=>x = .returned (.tuple #[.pointer none,.int .i64 105])∧Sat w (Disk d (Dk.new 100)*F) w'):=fun d F W hW=>open_raw hW (by rw[new_len];omega) (by rw[new_len];omega) (openX_new (by omega))
 have HB:Hid (∀ F W,Sat w F W→Calls Tryz.prog 25 #[.int .i64 16384] W fun e w'=> ∃ d b,e = .returned (.tuple #[.pointer (some ⟨d,0,none⟩),.pointer (some ⟨b,0,none⟩)])∧Sto w F b d 16384 0 1 0 1 [] (fun _=>none) w'):=fun F W hW=>begin10_any 16384 (by omega) hW
 have hcv:=conv_const;have hm129: ∀ W:World,(Instr.makeSlice 41 (.int .i64 129) (.int .i64 129)).run Tryz.prog W = .ok (.slice (some ⟨W.heap.size,0,none⟩) 129 129) (W.alloc (.cells (madeCells #[.int .u8 0] 129) 5)):=run_make_ten 129 (by omega);have hm128: ∀ W:World,(Instr.makeSlice 41 (.int .i64 128) (.int .i64 128)).run Tryz.prog W = .ok (.slice (some ⟨W.heap.size,0,none⟩) 128 128) (W.alloc (.cells (madeCells #[.int .u8 0] 128) 5)):=run_make_ten 128 (by omega);have hm4: ∀ W:World,(Instr.makeSlice 41 (.int .i64 16384) (.int .i64 16384)).run Tryz.prog W = .ok (.slice (some ⟨W.heap.size,0,none⟩) 16384 16384) (W.alloc (.cells (madeCells #[.int .u8 0] 16384) 5)):=run_make_ten 16384 (by omega);have hm5: ∀ W:World,(Instr.makeSlice 41 (.int .i64 16385) (.int .i64 16385)).run Tryz.prog W = .ok (.slice (some ⟨W.heap.size,0,none⟩) 16385 16385) (W.alloc (.cells (madeCells #[.int .u8 0] 16385) 5)):=run_make_ten 16385 (by omega);have hm6: ∀ W:World,(Instr.makeSlice 41 (.int .i64 16366) (.int .i64 16366)).run Tryz.prog W = .ok (.slice (some ⟨W.heap.size,0,none⟩) 16366 16366) (W.alloc (.cells (madeCells #[.int .u8 0] 16366) 5)):=run_make_ten 16366 (by omega);have hm7: ∀ W:World,(Instr.makeSlice 41 (.int .i64 16367) (.int .i64 16367)).run Tryz.prog W = .ok (.slice (some ⟨W.heap.size,0,none⟩) 16367 16367) (W.alloc (.cells (madeCells #[.int .u8 0] 16367) 5)):=run_make_ten 16367 (by omega);obtain⟨j0,hj,hy0,hy1,hy2⟩:=info_parts info_pu;have Hj:=ah hj;have Hy0:=ah hy0;have Hy1:=ah hy1;have Hy2:=ah hy2;clear hj hy0 hy1 hy2;go_enter Tryz.func5, Tryz.ntmps5;go_upto_region 8 with (first
  | (go_at_call 16;(with_reducible refine HNew1.out.mono ?_);rintro e w1 ⟨d1,rfl,hs⟩;have HS1:=ah hs;clear hs)
  | (go_at_call 18;(with_reducible refine(HFo.out _ _ HS1.out).mono ?_);rintro e wx ⟨rfl,rfl⟩)
  | (go_at_call 16;(with_reducible refine(HNew2.out _ _ HS1.out).mono ?_);rintro e w2 ⟨d2,rfl,hs⟩;have HS2:=ah hs;clear hs)
  | (go_at_call 19;(with_reducible refine(HOp.out _ _ _ HS2.out).mono ?_);rintro e w3 ⟨rfl,hs⟩;have HS3:=ah hs;clear hs)
  | (go_at_call 25;(with_reducible refine(HB.out _ _ HS3.out).mono ?_);rintro e w4 ⟨d,b,rfl,hs⟩;have HS4:=ah hs;clear hs))
 clear HNew1 HFo HNew2 HOp HB HS1 HS2 HS3;generalize Disk d2 (Dk.new 100)*(Disk d1 (Dk.new 63)*Emp)=F at*
 go_upto_region 10 with (first
  | (go_at_call 20;(with_reducible refine(en_a (by omega) (by omega) HS4.out).mono ?_);rintro e w6 ⟨rfl,hs⟩;have HS6:=ah hs;clear hs)
  | (go_at_call 20;(with_reducible refine(en_b (by omega) (by omega) HS6.out).mono ?_);rintro e w7 ⟨rfl,hs⟩;have HS7:=ah hs;clear hs))
 have HWca:Hid (Calls Tryz.prog 20 #[.pointer (some ⟨b,0,none⟩),.slice (some ⟨w7.heap.size+1+1,0,none⟩) 1 1] (((w7.alloc (.cells (madeCells #[.int .u8 0] 128) 5)).alloc (.cells (madeCells #[.int .u8 0] 16384) 5)).alloc (.cells #[.slice (some ⟨w7.heap.size,0,none⟩) 128 128,.slice (some ⟨w7.heap.size+1,0,none⟩) 16384 16384,.bool false] 43)).drew fun x w'=>x = .returned (.int .i64 0)∧Sto w F b d 16384 1 2 0 1 [(List.replicate 128 0,List.replicate 16384 0)] (fun _=>none) w'):=by
  have h8:=((HS7.out.al (.cells (madeCells #[.int .u8 0] 128) 5)).al (.cells (madeCells #[.int .u8 0] 16384) 5)).al (.cells #[.slice (some ⟨w7.heap.size,0,none⟩) 128 128,.slice (some ⟨w7.heap.size+1,0,none⟩) 16384 16384,.bool false] 43);simp only[World.size_alloc] at h8;refine(en_c _ _ _ (by omega) (by omega) (h8.map fun G hG=>hG.drew) (fun W hW=>⟨made_rd hW.up2,made_rd hW⟩)).mono ?_;rintro x w' ⟨rfl,h9⟩;exact⟨rfl,h9.drop.drop⟩
 have HWcb:Hid (Calls Tryz.prog 20 #[.pointer (some ⟨b,0,none⟩),.slice (some ⟨w7.heap.size+1+1,0,none⟩) 1 1] (((w7.alloc (.cells (madeCells #[.int .u8 0] 16384) 5)).alloc (.cells (madeCells #[.int .u8 0] 128) 5)).alloc (.cells #[.slice (some ⟨w7.heap.size+1,0,none⟩) 128 128,.slice (some ⟨w7.heap.size,0,none⟩) 16384 16384,.bool false] 43)).drew fun x w'=>x = .returned (.int .i64 0)∧Sto w F b d 16384 1 2 0 1 [(List.replicate 128 0,List.replicate 16384 0)] (fun _=>none) w'):=by
  have h8:=((HS7.out.al (.cells (madeCells #[.int .u8 0] 16384) 5)).al (.cells (madeCells #[.int .u8 0] 128) 5)).al (.cells #[.slice (some ⟨w7.heap.size+1,0,none⟩) 128 128,.slice (some ⟨w7.heap.size,0,none⟩) 16384 16384,.bool false] 43);simp only[World.size_alloc] at h8;refine(en_c _ _ _ (by omega) (by omega) (h8.map fun G hG=>hG.drew) (fun W hW=>⟨made_rd hW,made_rd hW.up2⟩)).mono ?_;rintro x w' ⟨rfl,h9⟩;exact⟨rfl,h9.drop.drop⟩
 refine wp_region_held_drew (S:=fun _=>True) (by kernel_rfl) trivial ?_;intro hS0;refine rtk 0 ?_;refine rgn_both (i:=1) (j:=2) rfl rfl (by kernel_rfl) (fun K hK=>?_) (fun K hK=>?_);go_simp;refine hK.out _ _ trivial (fun hS0=>?_);clear hK K;refine rck 2 fun K hK=>?_
 go_simp;refine hK.out _ _ trivial (fun hS0=>?_);clear hK K;refine rtk 3 ?_;refine rck 4 fun K hK=>?_
 go_simp;refine hK.out _ _ trivial (fun hS0=>?_);clear hK K;refine rck 5 fun K hK=>?_
 go_simp;go_at_call 20;(with_reducible refine HWca.out.mono ?_);rintro e w8 ⟨rfl,hs⟩;have HS8:=ah hs;clear hs
 refine hK.out _ _ trivial (fun hS0=>?_);clear hK K;refine rtk 6 ?_;refine wpAnyH_done (by kernel_rfl) ?_ _
 rotate_left
 go_simp;refine hK.out _ _ trivial (fun hS0=>?_);clear hK K;refine rck 1 fun K hK=>?_
 go_simp;refine hK.out _ _ trivial (fun hS0=>?_);clear hK K;refine rtk 3 ?_;refine rck 4 fun K hK=>?_
 go_simp;refine hK.out _ _ trivial (fun hS0=>?_);clear hK K;refine rck 5 fun K hK=>?_
 go_simp;go_at_call 20;(with_reducible refine HWcb.out.mono ?_);rintro e w8 ⟨rfl,hs⟩;have HS8:=ah hs;clear hs
 refine hK.out _ _ trivial (fun hS0=>?_);clear hK K;refine rtk 6 ?_;refine wpAnyH_done (by kernel_rfl) ?_ _
 rotate_left
 all_goals
  go_upto_region 13 with (first
   | (go_at_call 20;(with_reducible refine(en_d (by omega) (by omega) HS8.out).mono ?_);rintro e w9 ⟨rfl,hs⟩;have HS9:=ah hs;clear hs)
   | (go_at_call 20;(with_reducible refine(en_e (by omega) (by omega) HS9.out).mono ?_);rintro e w10 ⟨rfl,hs⟩;have HS10:=ah hs;clear hs))
  clear HS4 HS6 HS7 HS8 HS9 HWca HWcb;have hMl:[(List.replicate 128 (0:UInt8),List.replicate 16384 (0:UInt8))].length≤1:=by simp
  generalize [(List.replicate 128 (0:UInt8),List.replicate 16384 (0:UInt8))]=M1 at*
  go_wp2_with fail;go_loopw [15,16] (fun lv iv wr=> ∃ (i c:Nat) (B:Option Addr) (G:SP) (ps:List Pu),i≤16∧lv = .slice B i c∧iv = .int .i64 (i:Int)∧Hid (ps.length=i∧ps.map Pu.chn=nC10 i∧(∀ W,Sat w G W→PusR W ps)∧Sto w (Row 43 3 (.slice B i c) i (ps.flatMap puC)*G) b d 16384 1 2 0 1 M1 (fun _=>none) wr)) (fun _ iv _=>20 - (intOf iv).toNat)
  case atStart=>
   exact⟨0,0,none,F,[],by omega,rfl,rfl,rfl,rfl,(fun W hW p hp=>by cases hp),HS10.out.map fun G hG=>(hG.row_nil 43 3).up2⟩
  case round=>
   obtain⟨i,c,B,G,ps,hi,rfl,rfl,HD⟩:=hrel;by_cases hlt:i<16
   ·have hii:(i:Int)<16:=by omega
    have hw:IntKind.u8.wrap (i:Int)=i:=by rw[IntKind.wrap_u8];omega
    have hbk:([98,UInt8.ofNat i].map bv).toArray = #[.int .u8 98,.int .u8 (i:Int)]:=by
     show #[bv 98,bv _]=_;rw[bv_nat (by omega)];rfl
    have hs:=((HD.out.2.2.2.al (.cells #[.int .u8 98,.int .u8 (i:Int)] 5)).al (.cells (madeCells #[.int .u8 0] 16366) 5)).al (.cells #[.slice (some ⟨wr.heap.size,0,none⟩) 2 2,.slice (some ⟨wr.heap.size+1,0,none⟩) 16366 16366,.bool false] 43);simp only[World.size_alloc] at hs;obtain⟨H,hG,hR⟩:=Sto.opn hs;have HG:=ah (hG.of (show _=Row 43 3 (.slice B i c) i (ps.flatMap puC)*(Ow (wr.heap.size+1+1) (.cells #[.slice (some ⟨wr.heap.size,0,none⟩) 2 2,.slice (some ⟨wr.heap.size+1,0,none⟩) 16366 16366,.bool false] 43)*(Ow (wr.heap.size+1) (.cells (madeCells #[.int .u8 0] 16366) 5)*(Ow wr.heap.size (.cells #[.int .u8 98,.int .u8 (i:Int)] 5)*(G*H)))) by ac_rfl));have HR:=ah hR;clear hlt hs hG hR;go_upto_region 16 with (at_builtin;refine wpList_appS rfl (.tmp 78) (.tmp 84) 22 rfl 43 j0 _ 3 56 Tryz.underlying22 Hj.out Hy0.out Hy1.out Hy2.out rfl (by decide) (.slice B i c) i (ps.flatMap puC) rfl w _ (by exact HG.out) (some ⟨wr.heap.size+1+1,0,none⟩) 1 1 [.slice (some ⟨wr.heap.size,0,none⟩) 2 2,.slice (some ⟨wr.heap.size+1,0,none⟩) 16366 16366,.bool false] rfl (by exact lit_fi HG.out.up2 rfl) rfl (by intro u hu;simp at hu;rcases hu with rfl | rfl | rfl<;>rfl) (by unfold maxLen;omega) (by omega) ?_;intro B5 c5 w5 hs5;have HS5:=ah hs5;clear hs5)
    go_wp2_with fail;go_roundw
    ·refine⟨i+1,c5,B5,Ow (wr.heap.size+1) (.cells (madeCells #[.int .u8 0] 16366) 5)*(Ow wr.heap.size (.cells #[.int .u8 98,.int .u8 (i:Int)] 5)*G),ps++[⟨(some ⟨wr.heap.size,0,none⟩,2,[98,UInt8.ofNat i]),(some ⟨wr.heap.size+1,0,none⟩,16366,List.replicate 16366 0),false⟩],by omega,rfl,by push_cast;rfl,?_,?_,?_,?_⟩
     ·rw[List.length_append,HD.out.1];rfl
     ·rw[List.map_append,HD.out.2.1,nC10_succ];rfl
     ·intro W hW p hp;rcases List.mem_append.1 hp with h1 | h1
      ·exact HD.out.2.2.1 W hW.right.right p h1
      ·rw[List.mem_singleton] at h1;subst h1;exact⟨ow_rd (l:=[98,UInt8.ofNat i]) (by rw[hbk];exact hW.up2),made_rd hW⟩
     ·rw[List.flatMap_append];have h9:=HR.out (Row 43 3 (.slice B5 (i+1) c5) (i+1) (ps.flatMap puC++[.slice (some ⟨wr.heap.size,0,none⟩) 2 2,.slice (some ⟨wr.heap.size+1,0,none⟩) 16366 16366,.bool false])*(Ow (wr.heap.size+1) (.cells (madeCells #[.int .u8 0] 16366) 5)*(Ow wr.heap.size (.cells #[.int .u8 98,.int .u8 (i:Int)] 5)*G))) w5 (HS5.out.up2.right.of (by ac_rfl));have e:[(⟨(some ⟨wr.heap.size,0,none⟩,2,[98,UInt8.ofNat i]),(some ⟨wr.heap.size+1,0,none⟩,16366,List.replicate 16366 0),false⟩:Pu)].flatMap puC=[.slice (some ⟨wr.heap.size,0,none⟩) 2 2,.slice (some ⟨wr.heap.size+1,0,none⟩) 16366 16366,.bool false]:=by
       rw[List.flatMap_cons,List.flatMap_nil,List.append_nil];unfold puC slv';rw[List.length_replicate];rfl
      rw[e];exact h9
    ·simp[intOf];omega
   ·have hie:i=16:=by omega
    subst hie;obtain⟨hpl,hpc,hpr,hs⟩:=HD.out;have hlp:=hs.pairs;have hz: ∀ p ∈ ps,p.key.2.2.length≤1000000000∧p.value.2.2.length≤1000000000:=fun p hp=>by
     have h1:p.chn ∈ nC10 16:=by rw[←hpc];exact List.mem_map_of_mem hp
     unfold nC10 at h1;obtain⟨j,hj,e⟩:=List.mem_map.1 h1;have e1:p.key.2.2=[98,UInt8.ofNat j]:=(congrArg Chn.key e).symm;have e2:p.value.2.2=List.replicate 16366 0:=(congrArg Chn.value e).symm;rw[e1,e2,List.length_replicate];exact⟨by show 2≤_;omega,by omega⟩
    have HWi:Hid (Calls Tryz.prog 20 #[.pointer (some ⟨b,0,none⟩),.slice B 16 c] wr fun x w'=>x = .returned (.int .i64 0)∧Sto w (Row 43 3 (.slice B 16 c) 16 (ps.flatMap puC)*G) b d 16384 17 3 0 1 (putsM (nC10 16) M1) (fun _=>none) w'):=by
     have h9:=swrite B c ps (nC10 16) hpc (by omega) (by omega) hs (fun W hW=>⟨hW.row_rdK,hpr W hW.right⟩) hz (chk_zero.2 en_ok) (en_room hlp.2.2 (by rw[show (nC10 16).length=16 by decide];omega) en_ok);rw[hpl] at h9;exact h9
    have HPl:=ah hpl;have HPc:=ah hpc;have HPr:=ah hpr;have HZ:=ah hz;clear hpl hpc hpr hs hlp hz hlt HD HS10 hi;go_upto_region 19 with (go_at_call 20;(with_reducible refine HWi.out.mono ?_);rintro e w11 ⟨rfl,hs⟩;have HS11:=ah hs;clear hs)
    obtain⟨g,rfl,hrc⟩:=HS11.out.sat.row_at (by omega);have hM2:=HS11.out.pairs.2.1;have hs12:=HS11.out.al (.cells (madeCells #[.int .u8 0] 16367) 5);obtain⟨v,hv⟩: ∃ v,v=w11.heap.size:=⟨_,rfl⟩;obtain⟨w12,hw12⟩: ∃ w12,w12=w11.alloc (.cells (madeCells #[.int .u8 0] 16367) 5):=⟨_,rfl⟩;rw[←hv, ←hw12] at hs12;generalize putsM (nC10 16) M1=M2 at*
    have hs13:Sto w (Row 43 3 (.slice (some ⟨g,0,none⟩) 16 c) 16 (ps.flatMap puC)*(Ow v (.cells (madeCells #[.int .u8 0] 16367) 5)*G)) b d 16384 17 3 0 1 M2 (fun _=>none) w12:=hs12.of (by ac_rfl);have f1:=hs13.sat.row_free 1;have hpl2:=HPl.out;obtain⟨p0,pr,hps⟩: ∃ p0 pr,ps=p0::pr:=by
     cases ps with
     | nil=>cases hpl2
     | cons p0 pr=>exact⟨p0,pr,rfl⟩
    obtain⟨_,c',e',_,_⟩:=hs13.sat.row_sl;have y1:w12.cell? ⟨g,1,none⟩=some (slv' p0.value):=by
     obtain⟨g',e2,hc2⟩:=hs13.sat.row_at (by omega);injection e2 with e2
     injection e2 with e2 _
     subst e2;subst hps;have h1:=hc2 1 (by rw[List.flatMap_cons,List.length_append];show 1<3+_;omega);exact h1
    have hs14:Sto w (Row 43 3 (.slice (some ⟨g,0,none⟩) 16 c) 16 ((ps.flatMap puC).set 1 (.slice (some ⟨v,0,none⟩) 16367 16367))*(Ow v (.cells (madeCells #[.int .u8 0] 16367) 5)*G)) b d 16384 17 3 0 1 M2 (fun _=>none) (w12.setCell ⟨g,1,none⟩ (.slice (some ⟨v,0,none⟩) 16367 16367)):=hs13.map fun H hH=>(hH.up2.row_setj (j:=1) (.slice (some ⟨v,0,none⟩) 16367 16367)).up2
    have HS14:=ah hs14;clear hs12 hs13 hs14 hrc e';rw[hw12] at f1 y1;go_upto_region 20 with fail;obtain⟨w15,hw15⟩: ∃ w15,w15=w12.setCell ⟨g,1,none⟩ (.slice (some ⟨v,0,none⟩) 16367 16367):=⟨_,rfl⟩;rw[←hw15] at HS14;rw[←hv, ←hw12, ←hw15];clear hv hw12 hw15 f1 y1;have HWj:Hid (Calls Tryz.prog 20 #[.pointer (some ⟨b,0,none⟩),.slice (some ⟨g,0,none⟩) 16 c] w15 fun x w'=>x = .returned (.int .i64 102)∧Sto w G b d 16384 17 3 0 1 M2 (fun _=>none) w'):=by
     have hpc:=HPc.out;subst hps;have e3:((p0::pr).flatMap puC).set 1 (.slice (some ⟨v,0,none⟩) 16367 16367)=((⟨p0.key,(some ⟨v,0,none⟩,16367,List.replicate 16367 0),p0.dead⟩:Pu)::pr).flatMap puC:=by
      rw[List.flatMap_cons,List.flatMap_cons];show [slv' p0.key,_,.bool p0.dead]++_=[slv' p0.key,.slice _ (List.replicate 16367 (0:UInt8)).length _,.bool p0.dead]++_;rw[List.length_replicate]
     have hcn:p0.chn=nB10 0∧pr.map Pu.chn=(nC10 16).tail:=by
      rw[List.map_cons] at hpc;refine⟨?_,by rw[←hpc];rfl⟩;have h1:(nC10 16).head?=some p0.chn:=by rw[←hpc];rfl
      have h2:(nC10 16).head?=some (nB10 0):=rfl;rw[h2] at h1;injection h1 with h1
      exact h1.symm
     have hcs:((⟨p0.key,(some ⟨v,0,none⟩,16367,List.replicate 16367 0),p0.dead⟩:Pu)::pr).map Pu.chn=nC11:=by
      rw[List.map_cons,hcn.2];have e4:p0.key.2.2=[98,0]:=(congrArg Chn.key hcn.1);have e5:p0.dead=false:=(congrArg Chn.dead hcn.1);show (⟨p0.key.2.2,List.replicate 16367 0,p0.dead⟩:Chn)::_=nC11;rw[e4,e5];rfl
     have h14:=HS14.out;rw[e3] at h14;have h9:=swriteNo (some ⟨g,0,none⟩) c _ nC11 hcs (by omega) (by rw[List.length_cons] at hpl2 ⊢;omega) (by omega) h14 (fun W hW=>⟨hW.row_rdK,fun p hp=>?_⟩) (fun p hp=>?_) (by rw[en_chk2];omega)
     ·rw[List.length_cons] at h9 hpl2;rw[hpl2,en_chk2] at h9;refine h9.mono ?_;rintro x w' ⟨rfl,h10⟩;exact⟨rfl,h10.drop.drop⟩
     ·rcases List.mem_cons.1 hp with rfl | hp
      ·exact⟨(HPr.out W hW.right.right p0 List.mem_cons_self).1,made_rd hW.right⟩
      ·exact HPr.out W hW.right.right p (List.mem_cons_of_mem _ hp)
     ·rcases List.mem_cons.1 hp with rfl | hp
      ·exact⟨(HZ.out p0 List.mem_cons_self).1,by show (List.replicate 16367 (0:UInt8)).length≤_;rw[List.length_replicate];omega⟩
      ·exact HZ.out p (List.mem_cons_of_mem _ hp)
    have HWk:Hid (∀ W,Sto w G b d 16384 17 3 0 1 M2 (fun _=>none) W→Calls Tryz.prog 20 #[.pointer (some ⟨b,0,none⟩),.slice none 0 0] W fun x w'=>x = .returned (.int .i64 0)∧Sto w G b d 16384 17 4 0 1 M2 (fun _=>none) w'):=fun W hW=>by
     have h9:=swrite none 0 [] [] rfl (by omega) (by show 17+0≤1024;omega) hW (fun W hW=>⟨RdV.nil _ _,fun p hp=>by cases hp⟩) (fun p hp=>by cases hp) (by decide) (en_room hW.pairs.2.2 (by show M2.length+0≤40;omega) ⟨fun p hp=>(by cases hp),by decide⟩);exact h9
    have HWa:Hid (∀ F2 W,Sat w F2 W→Calls Tryz.prog 26 #[] W fun e w'=>e = .returned (.bool true)∧Sat w F2 w'):=fun F2 W hW=>wakes10_any hW
    clear HPl HPc HPr HZ hpl2 hps HS14 HS11 HWi;go_upto_region 24 with (first
     | (go_at_call 20;(with_reducible refine HWj.out.mono ?_);rintro e w16 ⟨rfl,hs⟩;have HS16:=ah hs;clear hs)
     | (go_at_call 20;(with_reducible refine(HWk.out _ HS16.out).mono ?_);rintro e w17 ⟨rfl,hs⟩;have HS17:=ah hs;clear hs)
     | (go_at_call 20;(with_reducible refine(en_h (by omega) (by omega) HS17.out (by omega)).mono ?_);rintro e w18 ⟨rfl,hs⟩;have HS18:=ah hs;clear hs;have HGq:=ah (nQ10_get (HS17.out.pairs).1))
     | (go_at_call 32;(with_reducible refine(lit_get_yes (x:=113) (v:=[51]) HGq.out (by omega) HS18.out 113 (by decide) 1 rfl).mono ?_);rintro e w19 ⟨A19,c19,rfl,hs⟩;have HS19:=ah hs;clear hs))
    obtain⟨SA,hSA⟩: ∃ SA,SA=ByteArray.mk [51].toArray:=⟨_,rfl⟩;have s1:(convert 41 9 (.slice A19 1 c19)).run Tryz.prog w19 = .ok (.string SA) w19:=by rw[hSA];exact row_str (v:=[51]) HS19.out.sat
    have hc1:(SA.toList==[51])=true:=by
     have h9:SA.toList=[51]:=by rw[hSA];simp
     rw[h9];rfl
    clear hSA;go_wp2_with (first
     | (go_at_call 29;(with_reducible refine(num10_any _ _).mono ?_);rintro e wx ⟨rfl,rfl⟩)
     | (go_at_call 26;(with_reducible refine(HWa.out _ _ HS19.out.sat).mono ?_);rintro e w20 ⟨rfl,hs⟩;have HS20:=ah hs;clear hs))
    go_ret;exact⟨rfl,HS20.out.chg⟩
end
end Go.Proofs.YtmbaiglpgaoogaaGreat
