/- StoreWhole: the walk. -/
import Derived.Test.YtmbaiglpgaoogaaGreatS16
import Derived.Test.YtmbaiglpgaoogaaGreatS25
import Derived.Test.YtmbaiglpgaoogaaGreatS38
namespace Go.Proofs.YtmbaiglpgaoogaaGreat
open Go.RowKit
set_option linter.unusedVariables false
set_option maxRecDepth 100000
def whC (n:Nat):List Chn:=(List.range n).map fun i=>⟨[107,UInt8.ofNat i],List.replicate (100+i) 0,false⟩
def whM:List Kv:=[([122],[115,97,102,101])]
theorem wh_all: ∀ n<17,chkB (whC n)=0∧fullB 1024 (putsM (whC n) whM) (whC n)=false∧(putsM (whC n) whM).length=n+1∧getK [122] (putsM (whC n) whM)=some [115,97,102,101]:=by decide+kernel
theorem wh_m1:putsM [⟨[122],[115,97,102,101],false⟩] []=whM:=by decide
theorem wh_f1:fullB 1024 (putsM [⟨[122],[115,97,102,101],false⟩] []) [⟨[122],[115,97,102,101],false⟩]=false:=by rw[wh_m1];decide
theorem whC_succ (i:Nat):whC (i+1)=whC i++[⟨[107,UInt8.ofNat i],List.replicate (100+i) 0,false⟩]:=by
 unfold whC;rw[List.range_succ,List.map_append];rfl
theorem made_bv (k:Nat):madeCells #[.int .u8 0] k=((List.replicate k (0:UInt8)).map bv).toArray:=by
 apply Array.ext';rw[List.map_replicate];simp[madeCells,bv,Nat.mod_one,List.map_const']
theorem run_make_ten (n:Nat) (hn:n≤100000) (W:World):(Instr.makeSlice 41 (.int .i64 (n:Int)) (.int .i64 (n:Int))).run Tryz.prog W=
  .ok (.slice (some ⟨W.heap.size,0,none⟩) n n) (W.alloc (.cells (madeCells #[.int .u8 0] n) 5)):=by
 obtain⟨i0,hi,hz0,hz1,hz2⟩:=info_parts info_u8o;have hr:=run_make (P:= Tryz.prog) W 41 5 i0 _ Tryz.underlying41 hi hz0 .i64 .i64 n n (by omega) (by omega) (by rw[hz2];omega) (by omega);have hc:(Value.int .u8 0).cells = #[.int .u8 0]:=rfl;simpa [hz1,hc] using hr
section
variable {w0 w w':World} {F F':SP} {b d n t k a nx:Nat} {M:List Kv} {olds:Int→Option (List Kv)}
abbrev safeO:Obj:= .cells #[.int .u8 115,.int .u8 97,.int .u8 102,.int .u8 101] 5 (4,5)
theorem whz_write (hk:k≤1000) (h:Sto w0 F b d 1024 0 k 0 nx [] olds w):
  Calls Tryz.prog 20 #[.pointer (some ⟨b,0,none⟩),.slice (some ⟨w.heap.size+1+1,0,none⟩) 1 1] (((w.alloc (by1 122)).alloc safeO).alloc (.cells #[.slice (some ⟨w.heap.size,0,none⟩) 1 1,.slice (some ⟨w.heap.size+1,0,none⟩) 4 4,.bool false] 43)) fun x w'=>x = .returned (.int .i64 0)∧Sto w0 F b d 1024 1 (k+1) 0 nx whM olds w':=by
 have h5:=((h.al (by1 122)).al safeO).al (.cells #[.slice (some ⟨w.heap.size,0,none⟩) 1 1,.slice (some ⟨w.heap.size+1,0,none⟩) 4 4,.bool false] 43);simp only[World.size_alloc] at h5;generalize w.heap.size=g at*
 have h6:=swrite1 ⟨(some ⟨g,0,none⟩,1,[122]),(some ⟨g+1,0,none⟩,4,[115,97,102,101]),false⟩ (g+1+1) (by omega) (by omega) h5 (fun W hW=>⟨ow_rd (l:=[122]) hW.up2,ow_rd (l:=[115,97,102,101]) hW⟩) ⟨by show 1≤1∧1≤128;omega,by show 4≤_;omega,fun h=>by cases h⟩ wh_f1;refine h6.mono ?_;rintro x w' ⟨rfl,h7⟩;have e:putM ⟨[122],[115,97,102,101],false⟩ []=whM:=wh_m1;exact⟨rfl,(e ▸ h7:Sto w0 _ b d 1024 1 (k+1) 0 nx whM olds w').drop.drop⟩
set_option maxHeartbeats 8000000 in
theorem storeWhole_walk (n0 kk:Int) (Kp:Option Addr) (kc:Nat) (keep:List Bool) (torn:Int) (w:World) (hn: -9223372036854775808≤n0∧n0≤9223372036854775807) (hk: -9223372036854775808≤kk∧kk≤9223372036854775807)
  (hp:keep.length≤kc∧kc≤maxLen∧RdV w Kp (keep.map Value.bool)∧keep.length≤140737488351232) (ht: -9223372036854775808≤torn∧torn≤9223372036854775807):
  Calls Tryz.prog 10 #[.int .i64 n0,.int .i64 kk,.slice Kp keep.length kc,.int .i64 torn] w (Asked true w):=by
 have h0:Sat w (Ro Kp (keep.map Value.bool)*Emp) w:=(Sat.start w).arg hp.2.2.1;have hkl:=hp.2.2.2;obtain⟨KP,hKP⟩: ∃ KP,KP=Ro Kp (keep.map Value.bool):=⟨_,rfl⟩;rw[←hKP] at h0;have HKP:=ah hKP;have HB:Hid (Calls Tryz.prog 25 #[.int .i64 1024] w fun e w'=> ∃ d b,e = .returned (.tuple #[.pointer (some ⟨d,0,none⟩),.pointer (some ⟨b,0,none⟩)])∧Sto w (KP*Emp) b d 1024 0 1 0 1 [] (fun _=>none) w'):=begin10_any (w0:=w) (w:=w) (F:=KP*Emp) 1024 (by omega) h0;have HWk:Hid (∀ w2 b d,Sto w (KP*Emp) b d 1024 0 1 0 1 [] (fun _=>none) w2→Calls Tryz.prog 26 #[] w2 fun e w'=>e = .returned (.bool true)∧Sto w (KP*Emp) b d 1024 0 1 0 1 [] (fun _=>none) w'):=fun w2 b d h=>by
  refine(wakes10_any (w0:=w2) (F:=Emp) (Sat.start w2)).mono ?_;rintro e w' ⟨rfl,hs⟩;exact⟨rfl,h.new hs.chg⟩
 have a15:=and15;have hcv:=conv_const;obtain⟨n,hnn⟩: ∃ n:Nat,(n:Int)=1+n0 % 16:=⟨(1+n0 % 16).toNat,by omega⟩;have hn1:1≤n:=by omega
 have hn16:n≤16:=by omega
 have HAll:=ah (wh_all n (by omega));obtain⟨j0,hj,hy0,hy1,hy2⟩:=info_parts info_pu;have Hj:=ah hj;have Hy0:=ah hy0;have Hy1:=ah hy1;have Hy2:=ah hy2;have HK:=ah hk;clear h0 hKP hp hn hk hj hy0 hy1 hy2;go_enter Tryz.func10, Tryz.ntmps10;go_upto_region 5 with (first
  | (go_at_call 25;(with_reducible refine HB.out.mono ?_);rintro e w2 ⟨d,b,rfl,hs⟩;have HS2:=ah hs;clear hs)
  | (go_at_call 26;(with_reducible refine(HWk.out _ _ _ HS2.out).mono ?_);rintro e w3 ⟨rfl,hs⟩;have HS3:=ah hs;clear hs))
 rw[←hnn];clear hnn HB HWk HS2;go_wp2_with fail;go_loopw [11,12] (fun lv iv wr=> ∃ (i c:Nat) (B:Option Addr) (F:SP) (ps:List Pu),i≤n∧lv = .slice B i c∧iv = .int .i64 (i:Int)∧Hid (ps.length=i∧ps.map Pu.chn=whC i∧(∀ W,Sat w F W→PusR W ps)∧Sto w (Row 43 3 (.slice B i c) i (ps.flatMap puC)*(KP*F)) b d 1024 0 1 0 1 [] (fun _=>none) wr)) (fun _ iv _=>20 - (intOf iv).toNat)
 case atStart=>
  refine⟨0,0,none,Emp,[],by omega,rfl,rfl,rfl,rfl,(fun W hW p hp=>by cases hp),?_⟩;exact HS3.out.map fun G hG=>(hG.row_nil 43 3).up2
 case round=>
  obtain⟨i,c,B,F,ps,hi,rfl,rfl,HD⟩:=hrel;by_cases hlt:i<n
  ·have hii:(i:Int)<n:=by omega
   have hw:IntKind.u8.wrap (i:Int)=i:=by rw[IntKind.wrap_u8];omega
   obtain⟨m,hm⟩: ∃ m:Nat,m=100+i:=⟨_,rfl⟩;have hmi:100+(i:Int)=m:=by omega
   have hmk:=run_make_ten m (by omega);have hbk:([107,UInt8.ofNat i].map bv).toArray = #[.int .u8 107,.int .u8 (i:Int)]:=by
    show #[bv 107,bv _]=_;rw[bv_nat (by omega)];rfl
   have hs:=((HD.out.2.2.2.al (.cells #[.int .u8 107,.int .u8 (i:Int)] 5)).al (.cells (madeCells #[.int .u8 0] m) 5)).al (.cells #[.slice (some ⟨wr.heap.size,0,none⟩) 2 2,.slice (some ⟨wr.heap.size+1,0,none⟩) m m,.bool false] 43);simp only[World.size_alloc] at hs;obtain⟨G,hG,hR⟩:=Sto.opn hs;have HG:=ah (hG.of (show _=Row 43 3 (.slice B i c) i (ps.flatMap puC)*(Ow (wr.heap.size+1+1) (.cells #[.slice (some ⟨wr.heap.size,0,none⟩) 2 2,.slice (some ⟨wr.heap.size+1,0,none⟩) m m,.bool false] 43)*(Ow (wr.heap.size+1) (.cells (madeCells #[.int .u8 0] m) 5)*(Ow wr.heap.size (.cells #[.int .u8 107,.int .u8 (i:Int)] 5)*(KP*F*G)))) by ac_rfl));have HR:=ah hR;have HM:=ah hm;clear hlt hs hG hR hm;go_upto_region 8 with (at_builtin;refine wpList_appS rfl (.tmp 37) (.tmp 45) 22 rfl 43 j0 _ 3 56 Tryz.underlying22 Hj.out Hy0.out Hy1.out Hy2.out rfl (by decide) (.slice B i c) i (ps.flatMap puC) rfl w _ (by exact HG.out) (some ⟨wr.heap.size+1+1,0,none⟩) 1 1 [.slice (some ⟨wr.heap.size,0,none⟩) 2 2,.slice (some ⟨wr.heap.size+1,0,none⟩) m m,.bool false] rfl (by exact lit_fi HG.out.up2 rfl) rfl (by intro u hu;simp at hu;rcases hu with rfl | rfl | rfl<;>rfl) (by unfold maxLen;omega) (by omega) ?_;intro B5 c5 w5 hs5;have HS5:=ah hs5;clear hs5)
   go_wp2_with fail;go_roundw
   ·refine⟨i+1,c5,B5,Ow (wr.heap.size+1) (.cells (madeCells #[.int .u8 0] m) 5)*(Ow wr.heap.size (.cells #[.int .u8 107,.int .u8 (i:Int)] 5)*F),ps++[⟨(some ⟨wr.heap.size,0,none⟩,2,[107,UInt8.ofNat i]),(some ⟨wr.heap.size+1,0,none⟩,m,List.replicate m 0),false⟩],by omega,rfl,by push_cast;rfl,?_,?_,?_,?_⟩
    ·rw[List.length_append,HD.out.1];rfl
    ·rw[List.map_append,HD.out.2.1,whC_succ,HM.out];rfl
    ·intro W hW p hp;rcases List.mem_append.1 hp with h1 | h1
     ·exact HD.out.2.2.1 W hW.right.right p h1
     ·rw[List.mem_singleton] at h1;subst h1;exact⟨ow_rd (l:=[107,UInt8.ofNat i]) (by rw[hbk];exact hW.up2),ow_rd (l:=List.replicate m 0) (by rw[←made_bv];exact hW)⟩
    ·rw[List.flatMap_append];have h9:=HR.out (Row 43 3 (.slice B5 (i+1) c5) (i+1) (ps.flatMap puC++[.slice (some ⟨wr.heap.size,0,none⟩) 2 2,.slice (some ⟨wr.heap.size+1,0,none⟩) m m,.bool false])*(KP*(Ow (wr.heap.size+1) (.cells (madeCells #[.int .u8 0] m) 5)*(Ow wr.heap.size (.cells #[.int .u8 107,.int .u8 (i:Int)] 5)*F)))) w5 (HS5.out.up2.right.of (by ac_rfl));have e:[(⟨(some ⟨wr.heap.size,0,none⟩,2,[107,UInt8.ofNat i]),(some ⟨wr.heap.size+1,0,none⟩,m,List.replicate m 0),false⟩:Pu)].flatMap puC=[.slice (some ⟨wr.heap.size,0,none⟩) 2 2,.slice (some ⟨wr.heap.size+1,0,none⟩) m m,.bool false]:=by
      rw[List.flatMap_cons,List.flatMap_nil,List.append_nil];unfold puC slv';rw[List.length_replicate];rfl
     rw[e];exact h9
   ·simp[intOf];omega
  ·have hie:i=n:=by omega
   subst hie;obtain⟨hpl,hpc,hpr,hs⟩:=HD.out;have HZ:=ah (whz_write (by omega) hs);have HPl:=ah hpl;have HPc:=ah hpc;have HPr:=ah hpr;obtain⟨hA1,hA2,hA3,hA4⟩:=HAll.out;have HWr:Hid (∀ W,Sto w (Row 43 3 (.slice B i c) i (ps.flatMap puC)*(KP*F)) b d 1024 1 2 kk.toNat 1 whM (fun _=>none) W→Calls Tryz.prog 20 #[.pointer (some ⟨b,0,none⟩),.slice B i c] W fun x w'=> ∃ (er:Int) (off:Bool) (Ms:List (List Kv)),x = .returned (.int .i64 er)∧Hid ((∀ M ∈ Ms,getK [122] M=some [115,97,102,101]∧(M.length=i+1∧(er=0∨er=21)∨M.length=1∧er=21))∧Crd w (KP*F) d 1024 (1+i) 4 Ms off w')):=fun W hW=>by
    have h9:=swriteArm B c ps (whC i) hpc (by omega) (by omega) (by have:=HK.out;omega) hW (fun W hW=>⟨hW.row_rdK,hpr W hW.right.right⟩) (fun p hp=>by
     have h1:p.chn ∈ whC i:=by rw[←hpc];exact List.mem_map_of_mem hp
     unfold whC at h1;obtain⟨j,hj,e⟩:=List.mem_map.1 h1;have hj2:=List.mem_range.1 hj;have e1:p.key.2.2=[107,UInt8.ofNat j]:=(congrArg Chn.key e).symm;have e2:p.value.2.2=List.replicate (100+j) 0:=(congrArg Chn.value e).symm;rw[e1,e2,List.length_replicate];exact⟨by show 2≤_;omega,by omega⟩) hA1 hA2
    rw[hpl] at h9;refine h9.mono ?_;rintro x w' (⟨rfl,h1⟩ | ⟨rfl,h1⟩)
    ·refine⟨0,false,[putsM (whC i) whM],rfl,fun M hM=>?_,(h1.crd (by omega)).drop⟩;rw[List.mem_singleton] at hM;subst hM;exact⟨hA4,.inl ⟨hA3,.inl rfl⟩⟩
    ·refine⟨21,true,[whM,putsM (whC i) whM],rfl,fun M hM=>?_,h1.drop.mono (Nat.le_refl _) (by omega)⟩;rcases List.mem_cons.1 hM with rfl | hM
     ·exact⟨by decide,.inr ⟨rfl,rfl⟩⟩
     ·rw[List.mem_singleton] at hM;subst hM;exact⟨hA4,.inl ⟨hA3,.inr rfl⟩⟩
   have HOn:Hid (∀ Ms W,Crd w (KP*F) d 1024 (1+i) 4 Ms true W→Calls Tryz.prog 39 #[.pointer (some ⟨d,0,none⟩),.slice Kp keep.length kc,.int .i64 torn,.int .i64 77] W fun e w'=>e = .returned (.tuple #[])∧Fnd w (KP*F) d 1024 (1+i) 4 0 Ms w'):=fun Ms W hW=>by
    rw[HKP.out] at hW ⊢;exact con Kp kc keep torn 77 (by omega) (by omega) hW
   clear hpl hpc hpr hs hA1 hA2 hA3 hA4 hlt HD HS3 HPl HPc HPr;go_upto_region 19 with (first
    | (go_at_call 20;(with_reducible refine HZ.out.mono ?_);rintro e w4 ⟨rfl,hs⟩;have HS4:=ah hs;clear hs)
    | (go_at_call 29;(with_reducible refine(num10_any _ _).mono ?_);rintro e wx ⟨rfl,rfl⟩)
    | (go_at_call 37;(with_reducible refine(sarm kk HS4.out).mono ?_);rintro e w5 ⟨rfl,hs⟩;have HS5:=ah hs;clear hs)
    | (go_at_call 20;(with_reducible refine(HWr.out _ HS5.out).mono ?_);rintro e w6 ⟨er,off,Ms,rfl,HMs⟩)
    | (go_at_call 38;(with_reducible refine(ccut HMs.out.2).mono ?_);rintro e w7 ⟨rfl,hs⟩;have HS7:=ah hs;clear hs)
    | (go_at_call 39;(with_reducible refine(HOn.out _ _ HS7.out).mono ?_);rintro e w8 ⟨rfl,hs⟩;have HS8:=ah hs;clear hs)
    | (go_at_call 19;(with_reducible refine(fopen0 (by omega) (by omega) HS8.out).mono ?_);rintro e w9 ⟨M,hM,b2,rfl,hs⟩;have HS9:=ah hs;have HM:=ah hM;clear hs hM))
   obtain⟨hgz,hcs⟩:=HMs.out.1 M HM.out;have HGz:=ah hgz;obtain⟨L,hL⟩: ∃ L:Int,L=((M.length:Nat):Int):=⟨_,rfl⟩;have HCs:Hid ((L=(i:Int)+1∧(er=0∨er=21))∨(L=1∧er=21)):=by
    rcases hcs with ⟨h1,h2⟩ | ⟨h1,h2⟩
    ·exact .inl ⟨by omega,h2⟩
    ·exact .inr ⟨by omega,h2⟩
   have HCn:Hid (∀ G W,Sto w G b2 d 1024 (1+i) (4+1) 0 1 M (fun _=>none) W→Calls Tryz.prog 31 #[.pointer (some ⟨b2,0,none⟩)] W fun x w'=>x = .returned (.int .i64 L)∧Sto w G b2 d 1024 (1+i) (4+1) 0 1 M (fun _=>none) w'):=fun G W hW=>by
    rw[hL];exact scount (by omega) hW
   clear hgz hcs hL HMs HZ HWr HOn;go_upto_region 21 with (first
    | (go_at_call 32;(with_reducible refine(lit_get_yes (x:=122) (v:=[115,97,102,101]) HGz.out (by omega) HS9.out 122 (by decide) 4 rfl).mono ?_);rintro e w10 ⟨A10,c10,rfl,hs⟩;have HS10:=ah hs;clear hs)
    | (go_at_call 31;(with_reducible refine(HCn.out _ _ HS10.out).mono ?_);rintro e w11 ⟨rfl,hs⟩;have HS11:=ah hs;clear hs))
   obtain⟨SA,hSA⟩: ∃ SA,SA=ByteArray.mk [115,97,102,101].toArray:=⟨_,rfl⟩;have s1:(convert 41 9 (.slice A10 4 c10)).run Tryz.prog w11 = .ok (.string SA) w11:=by rw[hSA];exact row_str (v:=[115,97,102,101]) HS11.out.sat
   have hc1:(SA.toList==[115,97,102,101])=true:=by
    have h9:SA.toList=[115,97,102,101]:=by rw[hSA];simp
    rw[h9];rfl
   have hc2:(SA.toList !=[115,97,102,101])=false:=by
    have h9:SA.toList=[115,97,102,101]:=by rw[hSA];simp
    rw[h9];rfl
   clear hSA;rcases HCs.out with ⟨rfl,rfl | rfl⟩ | ⟨rfl,rfl⟩
   all_goals
    go_wp2_with (go_at_call 29;(with_reducible refine(num10_any _ _).mono ?_);rintro e wx ⟨rfl,rfl⟩);go_ret;exact⟨rfl,HS11.out.sat.chg⟩
end
end Go.Proofs.YtmbaiglpgaoogaaGreat
