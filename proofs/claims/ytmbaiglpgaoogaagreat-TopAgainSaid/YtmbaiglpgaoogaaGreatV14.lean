/- Joined, as they were built one by one: Ext2 Ext3 Ext4 Ext5 Ext6. -/
import Derived.Lib.SlBytesConst
import Derived.Test.YtmbaiglpgaoogaaGreatV01
import Derived.Test.YtmbaiglpgaoogaaGreatV13
set_option maxHeartbeats 16000000
namespace Go.Proofs.YtmbaiglpgaoogaaGreat
open Go.RowKit
set_option linter.unusedVariables false
set_option maxRecDepth 100000
section
variable {w0 w:World} {F:SP} {s d slot turn:Nat} {v:Value} {ps:List (Nat × Fl)} {D:Dk}
theorem Sat.row_rol {A:Option Addr} {c n:Nat} {l:List UInt8} (h:Sat w0 (Row 5 1 (.slice A n c) n (l.map bv)*F) w):Sat w0 (RoL [(A,c,l)]*F) w:=by
 obtain⟨A2,c2,e,_,_,h2⟩:=h.row_ro;injection e with e1 _ e3
 subst e1;subst e3;have:=rb_rol (A,c,l);rw[<-this];exact h2
theorem sync_any (h:Sat w0 (SpaceC s d slot turn v ps*(Disk d D*F)) w) (hw2:D.pend.length<=1000000000):
  Calls Tryz.prog 56 #[.pointer (some ⟨s,0,none⟩)] w fun e w'=>e = .returned (.int .i64 D.flush.2)/\Sat w0 (SpaceC s d slot turn v ps*(Disk d D.flush.1*F)) w':=by
 have HB:=ah (flush_any d D w0 w _ h.up2 hw2);obtain⟨A,c,rfl,h1,h2,h3,h4,h5,h6,h7⟩:=h.spaceR;unfold ptrV at h4;clear h h3 h5 h6;go_enter Tryz.func56, Tryz.ntmps56;go_wp2_with (go_at_call 102;(with_reducible refine HB.o.mono ?_);rintro x wx ⟨rfl,hs⟩;have HS2:=ah hs;clear hs);go_ret;exact⟨rfl,HS2.o.up2⟩
theorem room_no (n:Int) (h:Sat w0 (SpaceC s d slot turn v ps*F) w) (hl:ps.length<=1000000) (hi:idxN ps n=ps.length):
  Calls Tryz.prog 118 #[.pointer (some ⟨s,0,none⟩),.int .i64 n] w fun e w'=>e = .returned (.tuple #[.int .i64 0,.int .i64 34])/\w=w':=by
 have HF:=find_any n h hl;rw[hi,List.getElem?_eq_none (Nat.le_refl _)] at HF;have HF:=ah HF;clear h hi;go_enter Tryz.func118, Tryz.ntmps118;go_wp2_with (go_at_call 103;(with_reducible refine HF.o.mono ?_);rintro x wx ⟨rfl,rfl⟩;unfold ptrO;dsimp only);go_ret2;exact⟨rfl,rfl⟩
theorem room_yes (n:Int) (h:Sat w0 (SpaceC s d slot turn v ps*F) w) (hl:ps.length<=1000000) {i:Nat} (hi:i<ps.length) (he:idxN ps n=i) (hb:ps[i].2.blocks<=65536) (hf:ps[i].2.frames.length<=ps[i].2.blocks):
  Calls Tryz.prog 118 #[.pointer (some ⟨s,0,none⟩),.int .i64 n] w fun e w'=>e = .returned (.tuple #[.int .i64 ((ps[i].2.blocks:Int) - ps[i].2.frames.length),.int .i64 0])/\Sat w0 (SpaceC s d slot turn v ps*F) w':=by
 have HF:=find_any n h hl;rw[he,List.getElem?_eq_getElem hi] at HF;have HF:=ah HF;have HS:=ah h;obtain⟨u,ks,hks,hg,A,c,rfl,hu⟩:=h.spaceF hi;have g2:=hg.2.2.1;have g5:=hg.2.2.2.2.2;have hkl:ks.length=ps[i].2.frames.length:=by rw[<-hks,txt,List.length_map]
 have hw:IntKind.i64.wrap ((ps[i].2.blocks:Int) - (ps[i].2.frames.length:Int))=(ps[i].2.blocks:Int) - (ps[i].2.frames.length:Int):=by rw[IntKind.wrap_i64];omega
 have HD:=ah ((Sat.drewN (h:=h)));rw[hkl] at g5;clear h hg hu hks he hkl;generalize ps[i].2.frames.length=m at*
 generalize ps[i].2.blocks=b at*
 go_enter Tryz.func118, Tryz.ntmps118;go_wp2_with (go_at_call 103;(with_reducible refine HF.o.mono ?_);rintro x wx ⟨rfl,rfl⟩;unfold ptrO ptrV;dsimp only);go_region
 all_goals
  (try go_wp2_with fail)
  go_ret2;exact⟨rfl,by first | exact HS.o | exact HS.o.drew | exact HD.o _⟩
theorem slOf_oneX (k:Slc): ∀ u ∈ [slOf k],u.oneCell'=true:=by
 intro u hu;rw[List.mem_singleton] at hu;subst hu;rfl
theorem frames_no (n:Int) (h:Sat w0 (SpaceC s d slot turn v ps*F) w) (hl:ps.length<=1000000) (hi:idxN ps n=ps.length):
  Calls Tryz.prog 59 #[.pointer (some ⟨s,0,none⟩),.int .i64 n] w fun e w'=>e = .returned (.tuple #[.slice none 0 0,.int .i64 34])/\w=w':=by
 have HF:=find_any n h hl;rw[hi,List.getElem?_eq_none (Nat.le_refl _)] at HF;have HF:=ah HF;clear h hi;go_enter Tryz.func59, Tryz.ntmps59;go_wp2_with (go_at_call 103;(with_reducible refine HF.o.mono ?_);rintro x wx ⟨rfl,rfl⟩;unfold ptrO;dsimp only);go_ret2;exact⟨rfl,rfl⟩
theorem rowsT:(Tryz.prog.info? 41).map (fun i=>(i.zero,i.size,i.bytes))=some (some (.slice none 0 0),1,24):=by kernel_rfl
theorem frames_yes (n:Int) (h:Sat w0 (SpaceC s d slot turn v ps*F) w) (hl:ps.length<=1000000) {i:Nat} (hi:i<ps.length) (he:idxN ps n=i) (hf:ps[i].2.frames.length<=65536) (hsm: ∀ p ∈ ps[i].2.frames,p.length<=480):
  Calls Tryz.prog 59 #[.pointer (some ⟨s,0,none⟩),.int .i64 n] w fun e w'=> ∃ u ts,e = .returned (.tuple #[u,.int .i64 0])/\txt ts=ps[i].2.frames/\Sat w0 (Row 41 1 u ts.length (ts.map slOf)*(RoL ts*(SpaceC s d slot turn v ps*F))) w':=by
 obtain⟨i0,hi0',hz0',hz1',hz2'⟩:=info_parts rowsT;have hi0:=ah hi0';have hz0:=ah hz0';have hz1:=ah hz1';have hz2:=ah hz2';have HF:=find_any n h hl;rw[he,List.getElem?_eq_getElem hi] at HF;have HF:=ah HF;obtain⟨v5,ks,hks,hfl⟩:=(h.of (space_at hi)).fl;obtain⟨A,c,rfl,hu1,hu2⟩:=hfl.up2.row_sl;have g5:w.cell? ⟨ps[i].1,5,none⟩=some (.slice A ks.length c):=hfl.cell 5;have HS:=ah hfl;have hkl:ks.length=ps[i].2.frames.length:=by rw[<-hks,txt,List.length_map]
 have HKs:=ah hks;have HSm:Hid (∀ k ∈ ks,k.2.2.length<=480):=fun k hk=>hsm k.2.2 (by rw[<-hks];exact List.mem_map_of_mem hk)
 have hk16:ks.length<=65536:=by omega
 clear h hks he hkl hf hsm hi0' hz0' hz1' hz2' hfl;obtain⟨G,hG⟩: ∃ G,G=Pt s 153 #[ptrV d,.int .i64 (slot:Int),.int .u64 (turn:Int),v]*(Row 155 1 v ps.length (ps.map fun x=>ptrV x.1)*(FlsP (ps.eraseIdx i)*F)):=⟨_,rfl⟩;rw[<-hG] at HS;have HG:=ah hG;clear hG;go_enter Tryz.func59, Tryz.ntmps59;go_wp2_with (go_at_call 103;(with_reducible refine HF.o.mono ?_);rintro x wx ⟨rfl,rfl⟩;unfold ptrO ptrV;dsimp only);go_loopw [7,9,20] (fun ov _ iv wr=> ∃ (k:Nat) (C:Option Addr) (cc:Nat) (ts:Rows_),k<=ks.length/\ov = .slice C k cc/\iv = .int .i64 (k:Int)/\Hid (ts.length=k/\txt ts=txt (ks.take k)/\Sat w0 (Row 41 1 (.slice C k cc) k (ts.map slOf)*(RoL ts*(Pt ps[i].1 163 (flC ps[i].2 (.slice A ks.length c))*(Row 41 1 (.slice A ks.length c) ks.length (ks.map slOf)*(RoL ks*G))))) wr)) (fun _ _ iv _=>ks.length - (intOf iv).toNat)
 case atStart=>exact⟨0,none,0,[],by omega,rfl,rfl,rfl,rfl,(HS.o.rolNil [] (by simp)).row_nil _ 1⟩
 case round=>
  obtain⟨k,C,cc,ts,hk,rfl,rfl,HD⟩:=hrel;by_cases hlt:k<ks.length
  .have hrd:RdL wr A ks:=⟨RdV.of_own HD.o.2.2.up4.row_own,fun x hx=>HD.o.2.2.up5.rol hx⟩;obtain⟨⟨b,o,rfl,hc⟩,hx⟩:=hrd.get hlt;have hk2:(k:Int)<ks.length:=by omega
   have hxl:=HSm.o ks[k] (List.getElem_mem hlt);have HT:Hid (txt (ks.take (k+1))=txt (ks.take k)++[ks[k].2.2]):=by
    unfold Hid txt;rw[List.take_succ_eq_append_getElem hlt,List.map_append];rfl
   have HCl:=ah (clone_any ks[k].1 ks[k].2.1 ks[k].2.2 wr hx (by omega));clear hx hrd;generalize ks[k]=x at*
   go_wp2_with (first
    | (go_at_call 104;(with_reducible refine HCl.o.mono ?_);rintro e w2 ⟨v2,rfl,h2,_,k2⟩;have hs:=HD.o.2.2.gotRow k2 h2;obtain⟨A2,c2,hv2,_⟩:=hs.row_sl;subst hv2;have HS2:=ah (hs.row_rol (l:=x.2.2));clear hs h2 k2)
    | (at_builtin;refine wpList_appS rfl (.tmp 24) (.tmp 27) 87 rfl 41 i0 _ 1 24 Tryz.underlying87 hi0.o hz0.o hz1.o hz2.o rfl (by decide) (.slice C k cc) k (ts.map slOf) rfl w0 _ (by exact(HS2.o.alloc' _).up2) (some ⟨w2.heap.size,0,none⟩) 1 1 [slOf (A2,c2,x.2.2)] rfl (lit_rdv _ _ _) rfl (slOf_oneX _) (by unfold maxLen;omega) (by omega) ?_;intro A3 c3 w3 hs3;have HS3:=ah hs3;clear hs3))
   go_roundw
   .refine⟨k+1,A3,c3,ts++[(A2,c2,x.2.2)],by omega,rfl,by push_cast;rfl,?_,?_,?_⟩
    .rw[List.length_append,HD.o.1];rfl
    .rw[HT.o, <-HD.o.2.1,txt,List.map_append];rfl
    .rw[List.map_append];exact HS3.o.of (by rw[<-rol_app,List.map_singleton];ac_rfl)
   .simp[intOf];omega
  .obtain rfl:k=ks.length:=by omega
   have hk2:¬ ((ks.length:Nat):Int)<ks.length:=by omega
   go_wp2_with fail;go_ret2;refine⟨_,rfl,ts,?_,?_⟩
   .rw[HD.o.2.1,List.take_length];exact HKs.o
   .rw[HD.o.1];have h9:=Sat.flI HKs.o (HD.o.2.2.of (show _=Pt ps[i].1 163 (flC ps[i].2 (.slice A ks.length c))*(Row 41 1 (.slice A ks.length c) ks.length (ks.map slOf)*(RoL ks*(Row 41 1 (.slice C ks.length cc) ks.length (ts.map slOf)*(RoL ts*G)))) by ac_rfl));refine h9.of ?_;rw[HG.o,space_at hi]
    ac_rfl
end
section
variable {w0 w:World} {F:SP} {v:Value} {f:Fl}
theorem oputS (x n:Nat) (z:Int) (hz:z=n) (hx:x<18446744073709551616) (h0:1<=n) (hn:n<=8) (w0 w:World) (F:SP) (h:Sat w0 F w) (P:List UInt8) (hP:putB x n=P):
  Calls Tryz.prog 117 #[.int .u64 (x:Int),.int .i64 z] w fun e w'=> ∃ A c,e = .returned (.slice A P.length c)/\Sat w0 (Row 5 1 (.slice A P.length c) P.length (P.map bv)*F) w':=by
 subst hz;subst hP;exact(oput_any x n hx h0 hn w0 w F h).mono fun _ _ ⟨A,c,e,_,_,hs⟩=>⟨A,c,e,hs⟩
theorem joinS (A:Option Addr) (n c:Nat) (ks:Rows_) (hn:ks.length=n) (w0 w:World) (F:SP) (h:Sat w0 F w) (hr:RdL w A ks) (l:List UInt8) (hl:(txt ks).flatten=l) (htot:l.length<=140737488355328) (hks:n<=1000000):
  Calls Tryz.prog 61 #[.slice A n c] w fun e w'=> ∃ B d,e = .returned (.slice B l.length d)/\Sat w0 (Row 5 1 (.slice B l.length d) l.length (l.map bv)*F) w':=by
 subst hn;subst hl;refine(join_any A c ks w hr htot (by omega)).mono ?_;rintro e w' ⟨v2,rfl,h2,k2⟩;have hs:=h.gotRow k2 h2;obtain⟨B,d,rfl,_⟩:=hs.row_sl;exact⟨B,d,rfl,hs⟩
theorem pad_map (l:List UInt8):(padB l).map bv=l.map bv++nulls (512 - l.length):=by
 unfold padB nulls;rw[List.map_append,List.map_replicate];rfl
theorem frame_any (q:Nat) (A:Option Addr) (c:Nat) (p:List UInt8) (h:Sat w0 (Pt q 163 (flC f v)*F) w) (hp: ∀ W,Sat w0 F W->Rd W A p) (hl:p.length<=480) (hb:f.birth<18446744073709551616) (hli:f.life<18446744073709551616):
  Calls Tryz.prog 150 #[.pointer (some ⟨q,0,none⟩),.slice A p.length c] w fun e w'=> ∃ B d,e = .returned (.slice B 512 d)/\Sat w0 (Row 5 1 (.slice B 512 d) 512 ((frameB f.birth f.life p).map bv)*(Pt q 163 (flC f v)*F)) w':=by
 obtain⟨P1,hP1⟩: ∃ P,putB f.birth 8=P:=⟨_,rfl⟩;obtain⟨P2,hP2⟩: ∃ P,putB f.life 8=P:=⟨_,rfl⟩;obtain⟨P3,hP3⟩: ∃ P,putB p.length 2=P:=⟨_,rfl⟩;have l1:P1.length=8:=by rw[<-hP1,putB_len]
 have l2:P2.length=8:=by rw[<-hP2,putB_len]
 have l3:P3.length=2:=by rw[<-hP3,putB_len]
 obtain⟨H,hH⟩: ∃ H,H=P1++(P2++(P3++p)):=⟨_,rfl⟩;have hHl:H.length=18+p.length:=by rw[hH];simp only[List.length_append,l1,l2,l3];omega
 have HFr:Hid ((frameB f.birth f.life p).map bv=H.map bv++nulls (512 - H.length)):=by
  unfold Hid frameB;rw[hP1,hP2,hP3, <-hH,pad_map]
 have hb0:Hid (f.birth<18446744073709551616):=hb;have hli0:Hid (f.life<18446744073709551616):=hli;have hwp:IntKind.u64.wrap (p.length:Int)=p.length:=by rw[IntKind.wrap_u64];omega
 have hH512:H.length<=498:=by omega
 have hsub:(512:Int) - (H.length:Int)=((512 - H.length:Nat):Int):=by omega
 have hH0:0<H.length:=by omega
 have HH:=ah hH;have HP1:=ah hP1;have HP2:=ah hP2;have HP3:=ah hP3;have HS:=ah h.drew;have HR:=ah hp;have HC:Hid (Chg No w w.drew):=(Chg.refl No w).drew;clear h hP1 hP2 hP3 l1 l2 l3 hH hHl hp hb hli;go_enter Tryz.func150, Tryz.ntmps150;go_upto_region 1 with fail;refine wp_region_held_drew (S:=fun w'=>w'.cell? ⟨q,3,none⟩=some (.int .u64 (f.birth:Int))/\w'.cell? ⟨q,4,none⟩=some (.int .u64 (f.life:Int))) (by kernel_rfl) ⟨HS.o.cell 3,HS.o.cell 4⟩ ?_;intro hS0;refine rtk 0 ?_;refine rtk 1 ?_;refine rtk 2 ?_;refine rtk 3 ?_;refine rtk 5 ?_;refine rtk 6 ?_;refine rtk 7 ?_;refine rtk 8 ?_;refine rtk 10 ?_;refine rtk 11 ?_;refine rtk 12 ?_;refine rtk 14 ?_;refine rck 4 fun K hK=>?_
 go_simp;go_at_call 117;refine(oputS f.birth 8 8 rfl hb0.o (by omega) (by omega) w0 w.drew _ HS.o P1 HP1.o).mono ?_;rintro y w4 ⟨A4,c4,rfl,hs⟩;replace HS:=ah hs;clear hs
 refine hK.out _ _ ⟨HS.o.up2.cell 3,HS.o.up2.cell 4⟩ (fun hS0=>?_);clear hK K;refine rck 9 fun K hK=>?_
 go_simp;go_at_call 117;refine(oputS f.life 8 8 rfl hli0.o (by omega) (by omega) w0 w4 _ HS.o P2 HP2.o).mono ?_;rintro y w9 ⟨A9,c9,rfl,hs⟩;replace HS:=ah hs;clear hs
 refine hK.out _ _ ⟨HS.o.up3.cell 3,HS.o.up3.cell 4⟩ (fun hS0=>?_);clear hK K;refine rck 13 fun K hK=>?_
 go_simp;go_at_call 117;refine(oputS p.length 2 2 rfl (by omega) (by omega) (by omega) w0 w9 _ HS.o P3 HP3.o).mono ?_;rintro y w13 ⟨A13,c13,rfl,hs⟩;replace HS:=ah hs;clear hs
 refine hK.out _ _ ⟨HS.o.up4.cell 3,HS.o.up4.cell 4⟩ (fun hS0=>?_);clear hK K;refine rck 15 fun K hK=>?_
 go_simp;have hs:=HS.o.allocPt 41 #[.slice A4 P1.length c4,.slice A9 P2.length c9,.slice A13 P3.length c13,.slice A p.length c];revert hs;generalize World.alloc w13 _=w15;generalize w13.heap.size=B15;intro hs;replace HS:=ah hs;clear hs;refine hK.out _ _ ⟨HS.o.up5.cell 3,HS.o.up5.cell 4⟩ (fun hS0=>?_);clear hK K;refine rck 16 fun K hK=>?_
 go_simp;go_at_call 61;refine(joinS (some ⟨B15,0,none⟩) 4 4 [(A4,c4,P1),(A9,c9,P2),(A13,c13,P3),(A,c,p)] rfl w0 w15 _ HS.o ⟨RdV.of_at HS.o.at (fun j hj=>by simp at hj;have:j=0\/j=1\/j=2\/j=3:=(by omega);rcases this with rfl | rfl | rfl | rfl<;>rfl),fun k hk=>by simp at hk;rcases hk with rfl | rfl | rfl | rfl;exact RdV.of_own HS.o.up4.row_own;exact RdV.of_own HS.o.up3.row_own;exact RdV.of_own HS.o.up2.row_own;exact HR.o _ HS.o.right.right.right.right.right⟩ H (by rw[HH.o];simp[txt]) (by omega) (by omega)).mono ?_;rintro y w16 ⟨A16,c16,rfl,hs⟩;replace HS:=ah hs;clear hs
 refine hK.out _ _ ⟨HS.o.up6.cell 3,HS.o.up6.cell 4⟩ (fun hS0=>?_);clear hK K;refine rtk 17 ?_;refine wpAnyH_done (by kernel_rfl) ?_ _;go_upto_region 2 with fail;obtain⟨g,rfl,_⟩:=HS.o.row_at hH0;obtain⟨j0,hj,hy0,hy1,hy2⟩:=info_parts info_u8o;go_wp2_with (at_builtin;refine wpList_appZ rfl (.tmp 23) (.tmp 26) 41 3 5 j0 rfl Tryz.underlying41 Tryz.underlying3 hj hy0 hy1 hy2 g H.length c16 (512 - H.length) (H.map bv) rfl rfl w0 _ HS.o (by omega) (by omega) ?_;intro A5 c5 w5 hs;replace HS:=ah hs;clear hs);go_ret;have e5:H.length+(512 - H.length)=512:=by omega
 have h9:=HS.o;rw[e5, <-HFr.o] at h9;exact⟨A5,c5,by rw[e5];rfl,h9.drop2.drop2.drop2.drop2⟩
end
section
variable {w0 w:World} {F:SP} {s d slot turn:Nat} {v:Value} {ps:List (Nat × Fl)} {D:Dk}
theorem space_set {i:Nat} (h:i<ps.length) (x:Nat × Fl) (hx:x.1=ps[i].1):SpaceC s d slot turn v (ps.set i x)*F=FlP x.1 x.2*(Pt s 153 #[ptrV d,.int .i64 (slot:Int),.int .u64 (turn:Int),v]*(Row 155 1 v ps.length (ps.map fun x=>ptrV x.1)*(FlsP (ps.eraseIdx i)*F))):=by
 have e:(ps.set i x).map (fun y=>ptrV y.1)=ps.map fun y=>ptrV y.1:=by
  apply List.ext_getElem?;intro j;rw[List.getElem?_map,List.getElem?_map,List.getElem?_set];by_cases ej:i=j
  .subst ej;rw[if_pos rfl,if_pos h,List.getElem?_eq_getElem h,Option.map_some,Option.map_some,hx]
  .rw[if_neg ej]
 rw[space_d,fls_set h,List.length_set,e]
 ac_rfl
theorem append_none (n:Int) (A:Option Addr) (c m:Nat) (h:Sat w0 (SpaceC s d slot turn v ps*F) w) (hl:ps.length<=1000000) (hi:idxN ps n=ps.length):
  Calls Tryz.prog 120 #[.pointer (some ⟨s,0,none⟩),.int .i64 n,.slice A m c] w fun e w'=>e = .returned (.int .i64 34)/\w=w':=by
 have HF:=find_any n h hl;rw[hi,List.getElem?_eq_none (Nat.le_refl _)] at HF;have HF:=ah HF;clear h hi;go_enter Tryz.func120, Tryz.ntmps120;go_wp2_with (go_at_call 103;(with_reducible refine HF.o.mono ?_);rintro x wx ⟨rfl,rfl⟩;unfold ptrO;dsimp only);go_ret;exact⟨rfl,rfl⟩
theorem append_long (n:Int) (A:Option Addr) (c m:Nat) (h:Sat w0 (SpaceC s d slot turn v ps*F) w) (hl:ps.length<=1000000) {i:Nat} (hi:i<ps.length) (he:idxN ps n=i) (hm:480<m):
  Calls Tryz.prog 120 #[.pointer (some ⟨s,0,none⟩),.int .i64 n,.slice A m c] w fun e w'=>e = .returned (.int .i64 35)/\w=w':=by
 have HF:=find_any n h hl;rw[he,List.getElem?_eq_getElem hi] at HF;have HF:=ah HF;have hm2:(480:Int)<m:=by omega
 clear h he hm;go_enter Tryz.func120, Tryz.ntmps120;go_wp2_with (go_at_call 103;(with_reducible refine HF.o.mono ?_);rintro x wx ⟨rfl,rfl⟩;unfold ptrO ptrV;dsimp only);go_ret;exact⟨rfl,rfl⟩
theorem append_end (n:Int) (A:Option Addr) (c m:Nat) (h:Sat w0 (SpaceC s d slot turn v ps*F) w) (hl:ps.length<=1000000) {i:Nat} (hi:i<ps.length) (he:idxN ps n=i) (hm:m<=480) (hf:ps[i].2.frames.length=ps[i].2.blocks):
  Calls Tryz.prog 120 #[.pointer (some ⟨s,0,none⟩),.int .i64 n,.slice A m c] w fun e w'=>e = .returned (.int .i64 36)/\Sat w0 (SpaceC s d slot turn v ps*F) w':=by
 have HF:=find_any n h hl;rw[he,List.getElem?_eq_getElem hi] at HF;have HF:=ah HF;have HS:=ah h;obtain⟨u,ks,hks,hg,B,c2,rfl,hu⟩:=h.spaceF hi;have g2:=hg.2.2.1;have g5:=hg.2.2.2.2.2;have hkl:ks.length=ps[i].2.frames.length:=by rw[<-hks,txt,List.length_map]
 rw[hkl,hf] at g5;have hm2:¬ (480:Int)<m:=by omega
 clear h hg hu hks he hkl hf hm;generalize ps[i].2.blocks=b at*
 go_enter Tryz.func120, Tryz.ntmps120;go_upto_region 6 with (go_at_call 103;(with_reducible refine HF.o.mono ?_);rintro x wx ⟨rfl,rfl⟩;unfold ptrO ptrV;dsimp only)
 go_region
 all_goals
  go_wp2_with fail;go_ret;exact⟨rfl,by first | exact HS.o | exact HS.o.drew⟩
theorem Sat.up8 {A B C D' E G H I:SP} (h:Sat w0 (A*(B*(C*(D'*(E*(G*(H*(I*F)))))))) w):Sat w0 (I*(A*(B*(C*(D'*(E*(G*(H*F)))))))) w:=h.of (by ac_rfl)
theorem Sat.dn8 {A B C D' E G H I:SP} (h:Sat w0 (I*(A*(B*(C*(D'*(E*(G*(H*F)))))))) w):Sat w0 (A*(B*(C*(D'*(E*(G*(H*(I*F)))))))) w:=h.of (by ac_rfl)
def AppX (w0:World) (F:SP) (s d slot turn:Nat) (v:Value) (ps:List (Nat × Fl)) (i:Nat) (hi:i<ps.length) (p:List UInt8) (r:Dk × Int) (e:Ending) (w':World):Prop:=
 e = .returned (.int .i64 r.2)/\Sat w0 (SpaceC s d slot turn v (if r.2=0 then ps.set i (ps[i].1,{ ps[i].2 with frames:=ps[i].2.frames++[p] }) else ps)*(Disk d r.1*F)) w'
theorem append_write (n:Int) (A:Option Addr) (c:Nat) (p:List UInt8) (h:Sat w0 (SpaceC s d slot turn v ps*(Disk d D*F)) w) (hp: ∀ W,Sat w0 F W->Rd W A p) (hl:ps.length<=1000000) {i:Nat} (hi:i<ps.length) (he:idxN ps n=i) (hm:p.length<=480) (hf:ps[i].2.frames.length<ps[i].2.blocks) (hfb:ps[i].2.first+ps[i].2.blocks<=65536)
  (hb:ps[i].2.birth<18446744073709551616) (hli:ps[i].2.life<18446744073709551616) (hw1:D.writes<=1000000000) (hw2:D.pend.length<=1000000000) (hw3:D.armed<=9223372036854775807):
  Calls Tryz.prog 120 #[.pointer (some ⟨s,0,none⟩),.int .i64 n,.slice A p.length c] w (AppX w0 F s d slot turn v ps i hi p (D.write ((ps[i].2.first+ps[i].2.frames.length:Nat):Int) (frameB ps[i].2.birth ps[i].2.life p))):=by
 obtain⟨i0,hi0',hz0',hz1',hz2'⟩:=info_parts rowsT;have hi0:=ah hi0';have hz0:=ah hz0';have hz1:=ah hz1';have hz2:=ah hz2';obtain⟨q,hq0⟩: ∃ q,q=ps[i].1:=⟨_,rfl⟩;have HF:Hid (Calls Tryz.prog 103 #[.pointer (some ⟨s,0,none⟩),.int .i64 n] w fun e w'=>e = .returned (.pointer (some ⟨q,0,none⟩))/\w=w'):=(find_any n h hl).mono fun e w' ⟨h1,h2⟩=>⟨by rw[h1,he,List.getElem?_eq_getElem hi,hq0];rfl,h2⟩
 obtain⟨v5,ks,hks,hfl⟩:=(h.of (space_at hi)).fl;obtain⟨B,bc,rfl,hu1,hu2⟩:=hfl.up2.row_sl;have hkl:ks.length=ps[i].2.frames.length:=by rw[<-hks,txt,List.length_map]
 obtain⟨N,hN⟩: ∃ N,N=ps[i].2.frames.length:=⟨_,rfl⟩;have hkN:ks.length=N:=hkl.trans hN.symm;obtain⟨f,hf0⟩: ∃ f,f=ps[i].2:=⟨_,rfl⟩;obtain⟨bl,hbl⟩: ∃ b,b=frameB f.birth f.life p:=⟨_,rfl⟩;have hbl5:bl.length=512:=by rw[hbl];exact frame_len hm
 obtain⟨J,hJ⟩: ∃ J,J=ps[i].2.first+ps[i].2.frames.length:=⟨_,rfl⟩;have hJn:(ps[i].2.first:Int)+(ks.length:Int)=(J:Int):=by omega
 have hwJ:IntKind.i64.wrap (J:Int)=J:=by rw[IntKind.wrap_i64];omega
 have hJs:J<=65536:=by omega
 have hk16:ks.length<=65536:=by omega
 obtain⟨R,hR⟩: ∃ R,R=D.write (J:Int) bl:=⟨_,rfl⟩;rw[<-hJ, <-hf0, <-hbl, <-hR];rw[<-hf0] at hb hli hJn hf;rw[<-hf0, <-hq0] at hfl;obtain⟨G,hG⟩: ∃ G,G=Pt s 153 #[ptrV d,.int .i64 (slot:Int),.int .u64 (turn:Int),v]*(Row 155 1 v ps.length (ps.map fun x=>ptrV x.1)*FlsP (ps.eraseIdx i)):=⟨_,rfl⟩;have HS:Hid (Sat w0 (Pt q 163 (flC f (.slice B ks.length bc))*(Row 41 1 (.slice B ks.length bc) ks.length (ks.map slOf)*(RoL ks*(Pt s 153 #[ptrV d,.int .i64 (slot:Int),.int .u64 (turn:Int),v]*(Row 155 1 v ps.length (ps.map fun x=>ptrV x.1)*(FlsP (ps.eraseIdx i)*(Disk d D*F))))))) w):=hfl;have HHp:=ah hp;have HKs:=ah hks;have Hf0:=ah hf0;have Hq0:=ah hq0;have HBl:=ah hbl;have HR:=ah hR;have HG:=ah hG;have hb0:Hid (f.birth<18446744073709551616):=hb;have hli0:Hid (f.life<18446744073709551616):=hli;have HW:Hid (∀ (X:SP) (W:World) (A:Option Addr) (c:Nat),Sat w0 (Disk d D*X) W->Rd W A bl->Calls Tryz.prog 131 #[.pointer (some ⟨d,0,none⟩),.int .i64 (J:Int),.slice A 512 c] W fun e w'=>e = .returned (.int .i64 R.2)/\Sat w0 (Disk d R.1*X) w'):=fun X W A c hX hA=>by
  have h9:=write_any d D (J:Int) A c bl w0 W X hX hA (by omega) hw1 hw2 hw3;unfold WriteD at h9;rw[hbl5, <-hR] at h9;exact h9
 have hnf:¬ ((ks.length:Nat):Int)=(f.blocks:Int):=by rw[<-hf0] at hkl;omega
 have hm2:¬ (480:Int)<p.length:=by omega
 clear h hfl hks hf0 hq0 hbl hR hG hb hli hp hkl hi0' hz0' hz1' hz2' he hw1 hw2 hw3 hN hkN hJ hf hfb hbl5;have y0:w.cell? ⟨s,0,none⟩=some (.pointer (some ⟨d,0,none⟩)):=HS.o.up4.cell 0;have y1:w.cell? ⟨q,1,none⟩=some (.int .i64 (f.first:Int)):=HS.o.cell 1;have y2:w.cell? ⟨q,2,none⟩=some (.int .i64 (f.blocks:Int)):=HS.o.cell 2;have y5:w.cell? ⟨q,5,none⟩=some (.slice B ks.length bc):=HS.o.cell 5;go_enter Tryz.func120, Tryz.ntmps120;go_upto_region 6 with (go_at_call 103;(with_reducible refine HF.o.mono ?_);rintro x wx ⟨rfl,rfl⟩)
 go_region
 go_upto_region 8 with fail;replace HS:=ah HS.o.drew.drew;clear y0 y1 y2 y5;refine wp_region_held_drew (S:=fun w'=>w'.cell? ⟨s,0,none⟩=some (.pointer (some ⟨d,0,none⟩))/\w'.cell? ⟨q,1,none⟩=some (.int .i64 (f.first:Int))/\w'.cell? ⟨q,5,none⟩=some (.slice B ks.length bc)) (by kernel_rfl) ⟨HS.o.up4.cell 0,HS.o.cell 1,HS.o.cell 5⟩ ?_;intro hS0;refine rtk 0 ?_;refine rtk 1 ?_;refine rtk 2 ?_;refine rtk 3 ?_;refine rtk 4 ?_;refine rtk 5 ?_;refine rtk 6 ?_;refine rtk 7 ?_;refine rtk 8 ?_;refine rtk 9 ?_;refine rtk 10 ?_;refine rtk 11 ?_;refine rtk 12 ?_;refine rtk 13 ?_;refine rtk 14 ?_;refine rtk 15 ?_;refine rtk 16 ?_;refine rck 17 fun K hK=>?_
 go_simp;go_at_call 150;refine(frame_any q A c p HS.o (fun W hW=>HHp.o W hW.right.right.right.right.right.right) hm hb0.o hli0.o).mono ?_;rintro y w17 ⟨B17,d17,rfl,hs⟩;rw[<-HBl.o] at hs;replace HS:=ah hs;clear hs
 refine hK.out _ _ ⟨HS.o.up5.cell 0,HS.o.up2.cell 1,HS.o.up2.cell 5⟩ (fun hS0=>?_);clear hK K;refine rck 18 fun K hK=>?_
 go_simp;go_at_call 131;refine(HW.o _ w17 B17 d17 HS.o.up8 (RdV.of_own HS.o.row_own)).mono ?_;rintro y w18 ⟨rfl,hs⟩;replace HS:=ah (hs.dn8);clear hs
 refine hK.out _ _ ⟨HS.o.up5.cell 0,HS.o.up2.cell 1,HS.o.up2.cell 5⟩ (fun hS0=>?_);clear hK K;refine rtk 19 ?_;refine wpAnyH_done (by kernel_rfl) ?_ _;replace HS:=ah HS.o.right;have HCl:Hid (∀ (W:World) (V:Value) (rs:Rows_) (D3:Dk),txt rs=f.frames->Sat w0 (Pt q 163 (flC f V)*(Row 41 1 V rs.length (rs.map slOf)*(RoL rs*(Pt s 153 #[ptrV d,.int .i64 (slot:Int),.int .u64 (turn:Int),v]*(Row 155 1 v ps.length (ps.map fun x=>ptrV x.1)*(FlsP (ps.eraseIdx i)*(Disk d D3*F))))))) W->Sat w0 (SpaceC s d slot turn v ps*(Disk d D3*F)) W):=fun W V rs D3 ht hW=>by
  refine(Sat.flI ht hW).of ?_;rw[space_at hi,Hf0.o,Hq0.o]
 by_cases hr:R.2=0
 .have hr2:¬ R.2≠0:=by omega
  go_upto_region 11 with fail;have y5:w18.cell? ⟨q,5,none⟩=some (.slice B ks.length bc):=HS.o.cell 5;have HC:=ah (clone_any A c p w18.drew (HHp.o _ HS.o.drew.right.right.right.right.right.right.right) (by omega));go_region_law (first
   | (go_simp;go_at_call 104;(with_reducible refine HC.o.mono ?_);rintro e w6 ⟨v6,rfl,h6,_,k6⟩;have hs:=HS.o.drew.gotRow k6 h6;obtain⟨A6,c6,hv6,_⟩:=hs.row_sl;subst hv6;have HS6:=ah (hs.row_rol (l:=p));have z5:w6.cell? ⟨q,5,none⟩=some (.slice B ks.length bc):=HS6.o.up2.cell 5;have z6: ∀ o,(w6.alloc o).cell? ⟨q,5,none⟩=some (.slice B ks.length bc):=(fun o=>(HS6.o.alloc' o).up2.cell 5);clear hs h6 k6)
   | (refine step_appS rfl (.tmp 57) (.tmp 60) 87 rfl 41 i0 _ 1 24 Tryz.underlying87 hi0.o hz0.o hz1.o hz2.o rfl (by decide) (.slice B ks.length bc) ks.length (ks.map slOf) rfl w0 _ (by exact(HS6.o.alloc' _).up3) (some ⟨w6.heap.size,0,none⟩) 1 1 [slOf (A6,c6,p)] rfl (lit_rdv _ _ _) rfl (slOf_oneX _) (by unfold maxLen;omega) (by omega) ?_;intro A8 c8 w8 hs;have HS8:=ah hs.up3;have c1:w8.cell? ⟨q,5,none⟩=some (.slice B ks.length bc):=hs.up3.cell 5;have f1:=hs.up3.frozen 5;clear hs))
  all_goals
   have h5:=HS8.o.set 5 (.slice A8 (ks.length+1) c8);clear c1 f1;revert h5;generalize World.setCell _ _ _=w9;intro h5;have HS9:Hid (Sat w0 (Pt q 163 (flC { f with frames:=f.frames++[p] } (.slice A8 (ks.length+1) c8))*(Row 41 1 (.slice A8 (ks.length+1) c8) (ks.length+1) (ks.map slOf++[slOf (A6,c6,p)])*(RoL [(A6,c6,p)]*(RoL ks*(Pt s 153 #[ptrV d,.int .i64 (slot:Int),.int .u64 (turn:Int),v]*(Row 155 1 v ps.length (ps.map fun x=>ptrV x.1)*(FlsP (ps.eraseIdx i)*(Disk d R.1*F)))))))) w9):=h5;clear h5;go_wp2_with fail;go_ret;refine⟨by rw[hr];rfl,?_⟩;rw[if_pos hr,space_set hi (ps[i].1,{ ps[i].2 with frames:=ps[i].2.frames++[p] }) rfl];have ht:txt (ks++[(A6,c6,p)])=({ f with frames:=f.frames++[p] }:Fl).frames:=by
    unfold txt;rw[List.map_append];show txt ks++[p]=f.frames++[p];rw[HKs.o,Hf0.o]
   have h9:=Sat.flI (ks:=ks++[(A6,c6,p)]) (v:= .slice A8 (ks.length+1) c8) ht (HS9.o.of (by
    show _=_*(Row _ 1 _ (ks++[(A6,c6,p)]).length _*(RoL (ks++[(A6,c6,p)])*(Pt s 153 #[ptrV d,.int .i64 (slot:Int),.int .u64 (turn:Int),v]*(Row 155 1 v ps.length (ps.map fun x=>ptrV x.1)*(FlsP (ps.eraseIdx i)*(Disk d R.1*F))))));rw[List.length_append,List.map_append, <-rol_app];show _=_*(Row _ 1 _ (ks.length+1) (ks.map slOf++[slOf (A6,c6,p)])*_)
    ac_rfl))
   rw[Hf0.o,Hq0.o] at h9;exact h9
 .go_wp2_with fail;go_ret;refine⟨rfl,?_⟩;rw[if_neg hr];exact HCl.o _ _ ks _ (HKs.o.trans (by rw[Hf0.o])) HS.o
end
section
variable {w0 w:World} {F:SP}
theorem ow_rd {b:Nat} {t:TypeId} {fr:Nat × Nat} {l:List UInt8} (h:Sat w0 (Ow b (.cells (l.map bv).toArray t fr)*F) w):Rd w (some ⟨b,0,none⟩) l:=fun _=>
 ⟨b,0,rfl,fun j hj=>by
  rw[cell_of_row w b (0+j) _ t fr h.block,Nat.zero_add,List.getElem?_toArray,List.getElem?_eq_getElem hj]⟩
def headK (turn n:Nat) (hs:List Hd) (k:Nat):List UInt8:=markX++(putB turn 8++(putB n 1++((hs.take k).map hdB).flatten))
theorem headK_succ {turn n:Nat} {hs:List Hd} {k:Nat} (h:k<hs.length):headK turn n hs (k+1)=headK turn n hs k++hdB hs[k]:=by
 unfold headK;rw[List.take_succ_eq_append_getElem h,List.map_append,List.flatten_append];simp
theorem headK_len {turn n:Nat} {hs:List Hd} {k:Nat} (h:k<=hs.length):(headK turn n hs k).length=13+20*k:=by
 unfold headK;simp only[List.length_append,putB_len,heads_len,List.length_take,Nat.min_eq_left h];show 4+_=_;omega
theorem headK_all (turn:Nat) (hs:List Hd):headK turn hs.length hs hs.length=headB turn hs:=by
 unfold headK headB;rw[List.take_length]
theorem seal_any (A:Option Addr) (c:Nat) (gs:List (Nat × Fl)) (turn:Nat) (h:Sat w0 (FlsP gs*F) w) (hA: ∀ W,Sat w0 (FlsP gs*F) W->RdV W A (gs.map fun x=>ptrV x.1)) (hn:gs.length<=24) (ht:turn<18446744073709551616) (ho: ∀ x ∈ gs,HdOk x.2.hd):
  Calls Tryz.prog 132 #[.int .u64 (turn:Int),.slice A gs.length c] w fun e w'=> ∃ B d,e = .returned (.slice B 512 d)/\Sat w0 (Row 5 1 (.slice B 512 d) 512 ((sealB turn (gs.map fun x=>x.2.hd)).map bv)*(FlsP gs*F)) w':=by
 have hcv:=fun (W:World) (C:Array Value) (n c:Nat)=>Lib.run_convert_bytes_const (P:= Tryz.prog) W 41 5 C n c Tryz.underlying41 Tryz.underlying5
 obtain⟨P8,hP8⟩: ∃ P,putB turn 8=P:=⟨_,rfl⟩;obtain⟨P1,hP1⟩: ∃ P,putB gs.length 1=P:=⟨_,rfl⟩;have l8:P8.length=8:=by rw[<-hP8,putB_len]
 have l1:P1.length=1:=by rw[<-hP1,putB_len]
 obtain⟨hs,hhs⟩: ∃ hs,hs=gs.map fun x=>x.2.hd:=⟨_,rfl⟩;have hsl:hs.length=gs.length:=by rw[hhs,List.length_map]
 obtain⟨H0,hH0⟩: ∃ H0,H0=headK turn gs.length hs 0:=⟨_,rfl⟩;have hH0l:H0.length=13:=by rw[hH0,headK_len (Nat.zero_le _)]
 have HH0:Hid (H0=markX++(P8++P1)):=by unfold Hid;rw[hH0];unfold headK;rw[hP8,hP1];simp
 have HH0e:=ah hH0;have HHs:=ah hhs;have HSl:=ah hsl;have HP8:=ah hP8;have HP1:=ah hP1;have HA:=ah hA;have HO:=ah ho;have ht0:Hid (turn<18446744073709551616):=ht;have hwn:IntKind.u64.wrap (gs.length:Int)=gs.length:=by rw[IntKind.wrap_u64];omega
 have HS0:Hid (Sat w0 (Ow w.heap.size (.cells #[.int .u8 84,.int .u8 68,.int .u8 88,.int .u8 49] 5 (4,5))*(FlsP gs*F)) (w.alloc (.cells #[.int .u8 84,.int .u8 68,.int .u8 88,.int .u8 49] 5 (4,5)))):=h.alloc _;have hH0m:H0.length<=140737488355328:=by omega
 have HC8:Hid (∀ (X:SP) (W:World),Sat w0 X W->Calls Tryz.prog 117 #[.int .u64 (turn:Int),.int .i64 8] W fun e w'=> ∃ A c,e = .returned (.slice A P8.length c)/\Sat w0 (Row 5 1 (.slice A P8.length c) P8.length (P8.map bv)*X) w'):=fun X W hX=>oputS turn 8 8 rfl ht (by omega) (by omega) w0 W X hX P8 hP8
 have HC1:Hid (∀ (X:SP) (W:World),Sat w0 X W->Calls Tryz.prog 117 #[.int .u64 (gs.length:Int),.int .i64 1] W fun e w'=> ∃ A c,e = .returned (.slice A P1.length c)/\Sat w0 (Row 5 1 (.slice A P1.length c) P1.length (P1.map bv)*X) w'):=fun X W hX=>oputS gs.length 1 1 rfl (by omega) (by omega) (by omega) w0 W X hX P1 hP1
 clear hH0l h hA ho hP8 hP1 l8 l1 hhs hsl hH0 ht;go_enter Tryz.func132, Tryz.ntmps132;go_upto_region 2 with (first
  | (go_at_call 117;(with_reducible refine(HC8.o _ _ HS0.o).mono ?_);rintro y w1 ⟨A1,c1,rfl,hs1⟩;have HS1:=ah hs1;clear hs1)
  | (go_at_call 117;(with_reducible refine(HC1.o _ _ HS1.o).mono ?_);rintro y w2 ⟨A2,c2,rfl,hs2⟩;have HS2:=ah (hs2.allocPt 41 #[.slice (some ⟨w.heap.size,0,none⟩) 4 4,.slice A1 P8.length c1,.slice A2 P1.length c2]);clear hs2;have HJ:=ah (joinS (some ⟨w2.heap.size,0,none⟩) 3 3 [(some ⟨w.heap.size,0,none⟩,4,markX),(A1,c1,P8),(A2,c2,P1)] rfl w0 _ _ HS2.o ⟨RdV.of_at HS2.o.at (fun j hj=>by simp at hj;have:j=0\/j=1\/j=2:=(by omega);rcases this with rfl | rfl | rfl<;>rfl),fun k hk=>by simp at hk;rcases hk with rfl | rfl | rfl;exact ow_rd (l:=markX) HS2.o.up4;exact RdV.of_own HS2.o.up3.row_own;exact RdV.of_own HS2.o.up2.row_own⟩ H0 (by rw[HH0.o];simp[txt]) hH0m (by omega)))
  | (go_at_call 61;(with_reducible refine HJ.o.mono ?_);rintro y w3 ⟨A3,c3,rfl,hs3⟩;have HS3:=ah hs3.drop2.drop2.drop2.drop2;clear hs3))
 go_wp2_with fail;go_loopw [5,7,20] (fun bw _ iv wr=> ∃ (k:Nat) (B:Option Addr) (d:Nat) (X:List UInt8),k<=gs.length/\bw = .slice B X.length d/\iv = .int .i64 (k:Int)/\Hid (X=headK turn gs.length hs k/\Sat w0 (Row 5 1 (.slice B X.length d) X.length (X.map bv)*(FlsP gs*F)) wr)) (fun _ _ iv _=>gs.length - (intOf iv).toNat)
 case atStart=>exact⟨0,A3,c3,H0,by omega,rfl,rfl,HH0e.o,HS3.o⟩
 case round=>
  obtain⟨k,B,d,X,hk,rfl,rfl,HD⟩:=hrel;by_cases hlt:k<gs.length
  .obtain⟨b,o,rfl,hc⟩:=ptr_get (HA.o wr HD.o.2.right) hlt;have hk2:(k:Int)<gs.length:=by omega
   have hXl:X.length=13+20*k:=by rw[HD.o.1,headK_len (by rw[HSl.o];exact hk)]
   obtain⟨o1,o2,o3,o4⟩:=HO.o gs[k] (List.getElem_mem hlt);obtain⟨f,hf0⟩: ∃ f,f=gs[k].2:=⟨_,rfl⟩;obtain⟨q,hq0⟩: ∃ q,q=gs[k].1:=⟨_,rfl⟩;have hsk:hs[k]'(by rw[HSl.o];exact hlt)=f.hd:=by simp only[HHs.o,List.getElem_map,hf0]
   rw[<-hq0] at hc;rw[<-hf0] at o1 o2 o3 o4;obtain⟨v5,ks,hks,hfl⟩:=Sat.fl (p:=q) (f:=f) ((HD.o.2.up2.of (show _=FlP q f*(Row 5 1 (.slice B X.length d) X.length (X.map bv)*(FlsP (gs.eraseIdx k)*F)) by rw[fls_at hlt, <-hf0, <-hq0];ac_rfl)));obtain⟨Pa,hPa⟩: ∃ P,putB f.num 4=P:=⟨_,rfl⟩;obtain⟨Pb,hPb⟩: ∃ P,putB f.first 4=P:=⟨_,rfl⟩;obtain⟨Pc,hPc⟩: ∃ P,putB f.blocks 4=P:=⟨_,rfl⟩;obtain⟨Pd,hPd⟩: ∃ P,putB f.birth 8=P:=⟨_,rfl⟩;obtain⟨Y,hY⟩: ∃ Y,Y=X++(Pa++(Pb++(Pc++Pd))):=⟨_,rfl⟩;have hYl:Y.length<=140737488355328:=by rw[hY, <-hPa, <-hPb, <-hPc, <-hPd];simp only[List.length_append,putB_len];omega
   have HYk:Hid (Y=headK turn gs.length hs (k+1)):=by
    unfold Hid;rw[headK_succ (by rw[HSl.o];exact hlt),hsk,hY, <-HD.o.1];unfold hdB Fl.hd;simp only[hPa,hPb,hPc,hPd]
   have n1:f.num<4294967296:=o1;have n2:f.first<4294967296:=o2;have n3:f.blocks<4294967296:=o3;have n4:Hid (f.birth<18446744073709551616):=o4;have w1':IntKind.u64.wrap (f.num:Int)=f.num:=by rw[IntKind.wrap_u64];omega
   have w2':IntKind.u64.wrap (f.first:Int)=f.first:=by rw[IntKind.wrap_u64];omega
   have w3':IntKind.u64.wrap (f.blocks:Int)=f.blocks:=by rw[IntKind.wrap_u64];omega
   have HCa:Hid (∀ (X:SP) (W:World),Sat w0 X W->Calls Tryz.prog 117 #[.int .u64 (f.num:Int),.int .i64 4] W fun e w'=> ∃ A c,e = .returned (.slice A Pa.length c)/\Sat w0 (Row 5 1 (.slice A Pa.length c) Pa.length (Pa.map bv)*X) w'):=fun X W hX=>oputS f.num 4 4 rfl (by omega) (by omega) (by omega) w0 W X hX Pa hPa
   have HCb:Hid (∀ (X:SP) (W:World),Sat w0 X W->Calls Tryz.prog 117 #[.int .u64 (f.first:Int),.int .i64 4] W fun e w'=> ∃ A c,e = .returned (.slice A Pb.length c)/\Sat w0 (Row 5 1 (.slice A Pb.length c) Pb.length (Pb.map bv)*X) w'):=fun X W hX=>oputS f.first 4 4 rfl (by omega) (by omega) (by omega) w0 W X hX Pb hPb
   have HCc:Hid (∀ (X:SP) (W:World),Sat w0 X W->Calls Tryz.prog 117 #[.int .u64 (f.blocks:Int),.int .i64 4] W fun e w'=> ∃ A c,e = .returned (.slice A Pc.length c)/\Sat w0 (Row 5 1 (.slice A Pc.length c) Pc.length (Pc.map bv)*X) w'):=fun X W hX=>oputS f.blocks 4 4 rfl (by omega) (by omega) (by omega) w0 W X hX Pc hPc
   have HCd:Hid (∀ (X:SP) (W:World),Sat w0 X W->Calls Tryz.prog 117 #[.int .u64 (f.birth:Int),.int .i64 8] W fun e w'=> ∃ A c,e = .returned (.slice A Pd.length c)/\Sat w0 (Row 5 1 (.slice A Pd.length c) Pd.length (Pd.map bv)*X) w'):=fun X W hX=>oputS f.birth 8 8 rfl o4 (by omega) (by omega) w0 W X hX Pd hPd
   have HS:=ah hfl.drew;have HKs:=ah hks;have Hf0:=ah hf0;have Hq0:=ah hq0;have HY:=ah hY;clear hfl hks hf0 hq0 hY hPa hPb hPc hPd hsk hXl o1 o2 o3 o4 n1 n2 n3;go_upto_region 5 with fail;refine wp_region_held_drew (S:=fun w'=>w'.cell? ⟨q,0,none⟩=some (.int .i64 (f.num:Int))/\w'.cell? ⟨q,1,none⟩=some (.int .i64 (f.first:Int))/\w'.cell? ⟨q,2,none⟩=some (.int .i64 (f.blocks:Int))/\w'.cell? ⟨q,3,none⟩=some (.int .u64 (f.birth:Int))) (by kernel_rfl) ⟨HS.o.cell 0,HS.o.cell 1,HS.o.cell 2,HS.o.cell 3⟩ ?_;intro hS0;refine rtk 0 ?_;refine rtk 1 ?_;refine rtk 2 ?_;refine rtk 3 ?_;refine rtk 4 ?_;refine rtk 5 ?_;refine rtk 6 ?_;refine rtk 8 ?_;refine rtk 9 ?_;refine rtk 10 ?_;refine rtk 11 ?_;refine rtk 12 ?_;refine rtk 13 ?_;refine rtk 15 ?_;refine rtk 16 ?_;refine rtk 17 ?_;refine rtk 18 ?_;refine rtk 19 ?_;refine rtk 20 ?_;refine rtk 22 ?_;refine rtk 23 ?_;refine rtk 24 ?_;refine rtk 25 ?_;refine rck 7 fun K hK=>?_
   go_simp;go_at_call 117;(with_reducible refine(HCa.o _ _ HS.o).mono ?_);rintro y w7 ⟨A7,c7,rfl,hs⟩;replace HS:=ah hs;clear hs
   refine hK.out _ _ ⟨HS.o.up2.cell 0,HS.o.up2.cell 1,HS.o.up2.cell 2,HS.o.up2.cell 3⟩ (fun hS0=>?_);clear hK K;refine rck 14 fun K hK=>?_
   go_simp;go_at_call 117;(with_reducible refine(HCb.o _ _ HS.o).mono ?_);rintro y w14 ⟨A14,c14,rfl,hs⟩;replace HS:=ah hs;clear hs
   refine hK.out _ _ ⟨HS.o.up3.cell 0,HS.o.up3.cell 1,HS.o.up3.cell 2,HS.o.up3.cell 3⟩ (fun hS0=>?_);clear hK K;refine rck 21 fun K hK=>?_
   go_simp;go_at_call 117;(with_reducible refine(HCc.o _ _ HS.o).mono ?_);rintro y w21 ⟨A21,c21,rfl,hs⟩;replace HS:=ah hs;clear hs
   refine hK.out _ _ ⟨HS.o.up4.cell 0,HS.o.up4.cell 1,HS.o.up4.cell 2,HS.o.up4.cell 3⟩ (fun hS0=>?_);clear hK K;refine rck 26 fun K hK=>?_
   go_simp;go_at_call 117;(with_reducible refine(HCd.o _ _ HS.o).mono ?_);rintro y w26 ⟨A26,c26,rfl,hs⟩;replace HS:=ah hs;clear hs
   refine hK.out _ _ ⟨HS.o.up5.cell 0,HS.o.up5.cell 1,HS.o.up5.cell 2,HS.o.up5.cell 3⟩ (fun hS0=>?_);clear hK K;refine rck 27 fun K hK=>?_
   go_simp;have hs:=HS.o.allocPt 41 #[.slice B X.length d,.slice A7 Pa.length c7,.slice A14 Pb.length c14,.slice A21 Pc.length c21,.slice A26 Pd.length c26];revert hs;generalize World.alloc w26 _=w27;generalize w26.heap.size=B27;intro hs;replace HS:=ah hs;clear hs;refine hK.out _ _ ⟨HS.o.up6.cell 0,HS.o.up6.cell 1,HS.o.up6.cell 2,HS.o.up6.cell 3⟩ (fun hS0=>?_);clear hK K;refine rck 28 fun K hK=>?_
   go_simp;have HJ9:=ah (joinS (some ⟨B27,0,none⟩) 5 5 [(B,d,X),(A7,c7,Pa),(A14,c14,Pb),(A21,c21,Pc),(A26,c26,Pd)] rfl w0 w27 _ HS.o ⟨RdV.of_at HS.o.at (fun j hj=>by simp at hj;have:j=0\/j=1\/j=2\/j=3\/j=4:=(by omega);rcases this with rfl | rfl | rfl | rfl | rfl<;>rfl),fun k hk=>by simp at hk;rcases hk with rfl | rfl | rfl | rfl | rfl;exact RdV.of_own HS.o.right.right.right.up6.row_own;exact RdV.of_own HS.o.up5.row_own;exact RdV.of_own HS.o.up4.row_own;exact RdV.of_own HS.o.up3.row_own;exact RdV.of_own HS.o.up2.row_own⟩ Y (by rw[HY.o];simp[txt]) hYl (by omega));go_at_call 61;(with_reducible refine HJ9.o.mono ?_);rintro y w28 ⟨A28,c28,rfl,hs⟩;replace HS:=ah hs;clear hs HJ9;refine hK.out _ _ ⟨HS.o.right.up6.cell 0,HS.o.right.up6.cell 1,HS.o.right.up6.cell 2,HS.o.right.up6.cell 3⟩ (fun hS0=>?_);clear hK K;refine rtk 29 ?_;refine wpAnyH_done (by kernel_rfl) ?_ _;go_wp2_with fail;go_roundw
   .refine⟨k+1,A28,c28,Y,by omega,rfl,by push_cast;rfl,HYk.o,?_⟩;have h9:=HS.o.drop2.drop2.drop2.drop2.drop2;have h8:=Sat.flI HKs.o (h9.of (show _=Pt q 163 (flC f v5)*(Row 41 1 v5 ks.length (ks.map slOf)*(RoL ks*(Row 5 1 (.slice A28 Y.length c28) Y.length (Y.map bv)*(Row 5 1 (.slice B X.length d) X.length (X.map bv)*(FlsP (gs.eraseIdx k)*F))))) by ac_rfl));have h7:=(h8.up3.right).up2;refine h7.of ?_;rw[fls_at hlt,Hf0.o,Hq0.o]
    ac_rfl
   .simp[intOf];omega
  .obtain rfl:k=gs.length:=by omega
   have hk2:¬ ((gs.length:Nat):Int)<gs.length:=by omega
   have HX:Hid (X=headB turn hs):=by unfold Hid;rw[HD.o.1, <-headK_all,HSl.o]
   have hXl:X.length=13+20*gs.length:=by rw[HD.o.1,headK_len (by rw[HSl.o];exact Nat.le_refl _)]
   have hX0:0<X.length:=by omega
   have hXm:X.length<=493:=by omega
   have hsub:(512:Int) - (X.length:Int)=((512 - X.length:Nat):Int):=by omega
   have HFr:Hid ((sealB turn hs).map bv=X.map bv++nulls (512 - X.length)):=by unfold Hid sealB;rw[pad_map,HX.o]
   have HS:=ah HD.o.2;clear hXl HD;go_upto_region 7 with fail;obtain⟨g,rfl,_⟩:=HS.o.row_at hX0;obtain⟨j0,hj,hy0,hy1,hy2⟩:=info_parts info_u8o;go_wp2_with (at_builtin;refine wpList_appZ rfl (.tmp 54) (.tmp 57) 41 3 5 j0 rfl Tryz.underlying41 Tryz.underlying3 hj hy0 hy1 hy2 g X.length d (512 - X.length) (X.map bv) rfl rfl w0 _ HS.o (by omega) (by omega) ?_;intro A5 c5 w5 hs;replace HS:=ah hs;clear hs);go_ret;have e5:X.length+(512 - X.length)=512:=by omega
   have h9:=HS.o;rw[e5, <-HFr.o] at h9;exact⟨A5,c5,by rw[e5];rfl,by rw[<-HHs.o];exact h9⟩
end
section
variable {w0 w:World} {F:SP} {s d slot turn:Nat} {v V:Value} {gs:List (Nat × Fl)} {D:Dk}
theorem write_pend (D:Dk) (i:Int) (b:List UInt8):(D.write i b).1.pend.length<=D.pend.length+1:=by
 unfold Dk.write;split
 .split
  .show (D.pend++[_]).length<=_;rw[List.length_append];exact Nat.le_refl _
  .exact Nat.le_succ _
 .exact Nat.le_succ _
def slotN (slot:Nat):Nat:=(slot+1) % 2
def turnN (turn:Nat):Nat:=(turn+1) % 18446744073709551616
def putC (d slot turn:Nat) (v V:Value) (ok:Bool):Array Value:=if ok then #[ptrV d,.int .i64 (slotN slot:Int),.int .u64 (turnN turn:Int),V] else #[ptrV d,.int .i64 (slot:Int),.int .u64 (turn:Int),v]
def PutX (w0:World) (F:SP) (s d slot turn:Nat) (v V:Value) (gs:List (Nat × Fl)) (R1 R2:Dk × Int) (e:Ending) (w':World):Prop:=
 (R1.2≠0/\e = .returned (.int .i64 R1.2)/\Sat w0 (Pt s 153 (putC d slot turn v V false)*(Row 155 1 V gs.length (gs.map fun x=>ptrV x.1)*(FlsP gs*(Disk d R1.1*F)))) w')\/
 (R1.2=0/\R2.2≠0/\e = .returned (.int .i64 R2.2)/\Sat w0 (Pt s 153 (putC d slot turn v V false)*(Row 155 1 V gs.length (gs.map fun x=>ptrV x.1)*(FlsP gs*(Disk d R2.1*F)))) w')\/
 (R1.2=0/\R2.2=0/\e = .returned (.int .i64 0)/\Sat w0 (Pt s 153 (putC d slot turn v V true)*(Row 155 1 V gs.length (gs.map fun x=>ptrV x.1)*(FlsP gs*(Disk d R2.1*F)))) w')
theorem put_any (h:Sat w0 (Pt s 153 #[ptrV d,.int .i64 (slot:Int),.int .u64 (turn:Int),v]*(Row 155 1 V gs.length (gs.map fun x=>ptrV x.1)*(FlsP gs*(Disk d D*F)))) w) (hn:gs.length<=24) (hsl:slot<2) (htu:turn<18446744073709551616) (ho: ∀ x ∈ gs,HdOk x.2.hd) (hw1:D.writes<=1000000000) (hw2:D.pend.length<=999999999) (hw3:D.armed<=9223372036854775807):
  Calls Tryz.prog 91 #[.pointer (some ⟨s,0,none⟩),V] w (PutX w0 F s d slot turn v V gs (D.write (slotN slot:Int) (sealB (turnN turn) (gs.map fun x=>x.2.hd))) (D.write (slotN slot:Int) (sealB (turnN turn) (gs.map fun x=>x.2.hd))).1.flush):=by
 obtain⟨A,c,rfl,hc1,hc2⟩:=h.up2.row_sl;obtain⟨b,hb⟩: ∃ b,b=sealB (turnN turn) (gs.map fun x=>x.2.hd):=⟨_,rfl⟩;have hbl:b.length=512:=by rw[hb];exact sealB_len (by rw[List.length_map];exact hn)
 obtain⟨R1,hR1⟩: ∃ R,R=D.write (slotN slot:Int) b:=⟨_,rfl⟩;obtain⟨R2,hR2⟩: ∃ R,R=R1.1.flush:=⟨_,rfl⟩;rw[<-hb, <-hR1, <-hR2];have hp1:R1.1.pend.length<=1000000000:=by have:=write_pend D (slotN slot:Int) b;rw[<-hR1] at this;omega
 have HW:Hid (∀ (X:SP) (W:World) (A:Option Addr) (c:Nat),Sat w0 (Disk d D*X) W->Rd W A b->Calls Tryz.prog 131 #[.pointer (some ⟨d,0,none⟩),.int .i64 (slotN slot:Int),.slice A 512 c] W fun e w'=>e = .returned (.int .i64 R1.2)/\Sat w0 (Disk d R1.1*X) w'):=fun X W A c hX hA=>by
  have h9:=write_any d D (slotN slot:Int) A c b w0 W X hX hA (by omega) hw1 (by omega) hw3;unfold WriteD at h9;rw[hbl, <-hR1] at h9;exact h9
 have HFl:Hid (∀ (X:SP) (W:World),Sat w0 (Disk d R1.1*X) W->Calls Tryz.prog 102 #[.pointer (some ⟨d,0,none⟩)] W fun e w'=>e = .returned (.int .i64 R2.2)/\Sat w0 (Disk d R2.1*X) w'):=fun X W hX=>by
  have h9:=flush_any d R1.1 w0 W X hX hp1;rw[<-hR2] at h9;exact h9
 have htn:turnN turn<18446744073709551616:=Nat.mod_lt _ (by omega);have HSe:Hid (∀ (W:World),Sat w0 (FlsP gs*(Row 155 1 (.slice A gs.length c) gs.length (gs.map fun x=>ptrV x.1)*(Pt s 153 #[ptrV d,.int .i64 (slot:Int),.int .u64 (turn:Int),v]*(Disk d D*F)))) W->
   Calls Tryz.prog 132 #[.int .u64 (turnN turn:Int),.slice A gs.length c] W fun e w'=> ∃ B d',e = .returned (.slice B 512 d')/\Sat w0 (Row 5 1 (.slice B 512 d') 512 (b.map bv)*(FlsP gs*(Row 155 1 (.slice A gs.length c) gs.length (gs.map fun x=>ptrV x.1)*(Pt s 153 #[ptrV d,.int .i64 (slot:Int),.int .u64 (turn:Int),v]*(Disk d D*F))))) w'):=fun W hW=>by
  rw[hb];exact seal_any A c gs (turnN turn) hW (fun W2 hW2=>RdV.of_own hW2.right.row_own) hn htn ho
 have e1:((slot:Int)+1).tmod 2=(slotN slot:Int):=by
  rw[Int.tmod_eq_emod_of_nonneg (by omega)];unfold slotN;omega
 have e1':IntKind.i64.wrap ((slot:Int)+1)=(slot:Int)+1:=by rw[IntKind.wrap_i64];omega
 have e2:IntKind.u64.wrap ((turn:Int)+1)=(turnN turn:Int):=by
  rw[IntKind.wrap_u64];unfold turnN;omega
 have HS:=ah h;have y0:w.cell? ⟨s,0,none⟩=some (.pointer (some ⟨d,0,none⟩)):=h.cell 0;have y1:w.cell? ⟨s,1,none⟩=some (.int .i64 (slot:Int)):=h.cell 1;clear h ho hb hbl hR1 hR2 hp1 htn hw1 hw2 hw3;generalize hsl9:slotN slot=sl at*
 generalize htu9:turnN turn=tu at*
 have HSl:=ah hsl9;have HTu:=ah htu9;clear hsl9 htu9;go_enter Tryz.func91, Tryz.ntmps91;go_upto_region 2 with fail;replace HS:=ah ((HS.o.drew).of (show _=FlsP gs*(Row 155 1 (.slice A gs.length c) gs.length (gs.map fun x=>ptrV x.1)*(Pt s 153 #[ptrV d,.int .i64 (slot:Int),.int .u64 (turn:Int),v]*(Disk d D*F))) by ac_rfl));clear y0 y1;refine wp_region_held_drew (S:=fun w'=>w'.cell? ⟨s,0,none⟩=some (.pointer (some ⟨d,0,none⟩))/\w'.cell? ⟨s,2,none⟩=some (.int .u64 (turn:Int))) (by kernel_rfl) ⟨HS.o.up3.cell 0,HS.o.up3.cell 2⟩ ?_;intro hS0;refine rtk 0 ?_;refine rtk 1 ?_;refine rtk 2 ?_;refine rtk 3 ?_;refine rtk 4 ?_;refine rtk 5 ?_;refine rtk 6 ?_;refine rtk 7 ?_;refine rtk 8 ?_;refine rtk 9 ?_;refine rtk 10 ?_;refine rck 11 fun K hK=>?_
 go_simp;go_at_call 132;(with_reducible refine(HSe.o _ HS.o).mono ?_);rintro y w11 ⟨B11,d11,rfl,hs⟩;replace HS:=ah hs;clear hs
 refine hK.out _ _ ⟨HS.o.up4.cell 0,HS.o.up4.cell 2⟩ (fun hS0=>?_);clear hK K;refine rck 12 fun K hK=>?_
 go_simp;go_at_call 131;refine(HW.o _ w11 B11 d11 HS.o.up5 (RdV.of_own HS.o.row_own)).mono ?_;rintro y w12 ⟨rfl,hs⟩;replace HS:=ah hs.dn5;clear hs
 refine hK.out _ _ ⟨HS.o.up4.cell 0,HS.o.up4.cell 2⟩ (fun hS0=>?_);clear hK K;refine rtk 13 ?_;refine wpAnyH_done (by kernel_rfl) ?_ _;replace HS:=ah HS.o.right;by_cases hr1:R1.2=0
 .go_upto_region 5 with fail;have y0:w12.cell? ⟨s,0,none⟩=some (.pointer (some ⟨d,0,none⟩)):=HS.o.up3.cell 0;go_upto_region 6 with (go_at_call 102;(with_reducible refine(HFl.o _ w12 HS.o.up4).mono ?_);rintro y w13 ⟨rfl,hs⟩;replace HS:=ah hs.dn4;clear hs)
  clear y0;by_cases hr2:R2.2=0
  .have y1:w13.cell? ⟨s,1,none⟩=some (.int .i64 (slot:Int)):=HS.o.up3.cell 1;have y2:w13.cell? ⟨s,2,none⟩=some (.int .u64 (turn:Int)):=HS.o.up3.cell 2;have y3:w13.cell? ⟨s,3,none⟩=some v:=HS.o.up3.cell 3;have f1:=HS.o.up3.frozen 1;have f2:=HS.o.up3.frozen 2;have f3:=HS.o.up3.frozen 3;go_wp2_with fail;go_ret;refine .inr (.inr ⟨hr1,hr2,rfl,?_⟩);have h9:=((HS.o.up3.set 1 (.int .i64 (sl:Int))).set 3 (.slice A gs.length c)).set 2 (.int .u64 (tu:Int));unfold putC;rw[if_pos rfl,HSl.o,HTu.o];exact h9.of (by
    show Pt s 153 #[ptrV d,.int .i64 (sl:Int),.int .u64 (tu:Int),.slice A gs.length c]*_=_
    ac_rfl)
  .go_wp2_with fail;go_ret;refine .inr (.inl ⟨hr1,hr2,rfl,?_⟩);exact HS.o.of (by unfold putC;rw[if_neg (by simp)];ac_rfl)
 .go_wp2_with fail;go_ret;refine .inl ⟨hr1,rfl,?_⟩;exact HS.o.of (by unfold putC;rw[if_neg (by simp)];ac_rfl)
end
end Go.Proofs.YtmbaiglpgaoogaaGreat
