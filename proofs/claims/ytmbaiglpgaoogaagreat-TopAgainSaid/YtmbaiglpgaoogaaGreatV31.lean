/- Joined, as they were built one by one: TabCopied TabGet TabGet2 TabRange Sto7 Sto9 Sto11 MemLevL. -/
import Derived.Test.YtmbaiglpgaoogaaGreatV08
import Derived.Test.YtmbaiglpgaoogaaGreatV20
import Derived.Test.YtmbaiglpgaoogaaGreatV27
import Derived.Test.YtmbaiglpgaoogaaGreatV30
set_option maxHeartbeats 16000000
namespace Go.Proofs.YtmbaiglpgaoogaaGreat
open Go.RowKit
set_option linter.unusedVariables false
set_option maxRecDepth 100000
theorem tcopied0 (e:En) (w:World) (hr:EnR w e) (hk:e.key.2.2.length<=140737488355328) (hv:e.value.2.2.length<=140737488355328):
  Calls Tryz.prog 146 #[enA e] w (CopiedS w Emp e):=by
 have h:=Sat.start w;obtain⟨⟨kA,kc,k⟩,⟨vA,vc,v⟩,seq,dead⟩:=e;have HRk:Hid (Rd w kA k):=hr.1;have HRv:Hid (Rd w vA v):=hr.2;have hk':k.length<=140737488355328:=hk;have hv':v.length<=140737488355328:=hv;have h1:=h.allocAt (b:=w.heap.size) 120 #[.slice kA k.length kc,.slice vA v.length vc,.int .i64 seq,.bool dead] rfl;have h2:=h1.allocAt (b:=w.heap.size+1) 120 #[.slice none 0 0,.slice none 0 0,.int .i64 0,.bool false] (by simp);have hc2:Chg No w _:=((Chg.refl No w).alloc (.cells #[.slice kA k.length kc,.slice vA v.length vc,.int .i64 seq,.bool dead] 120)).alloc (.cells #[.slice none 0 0,.slice none 0 0,.int .i64 0,.bool false] 120);clear hr h h1;unfold enA;go_enter Tryz.func146, Tryz.ntmps146;go_wp2_with fail;revert h2 hc2;generalize (w.alloc _).alloc _=W;intro h2 hc2;generalize w.heap.size+1=B at*
 generalize w.heap.size=E at*
 have c0:=h2.up2.cell 0;have c1:=h2.up2.cell 1;have c2:=h2.up2.cell 2;have c3:=h2.up2.cell 3;have HS0:=ah h2;have HC0:=ah hc2;clear h2 hc2;go_region_law (first
  | (go_simp;go_at_call 104;(with_reducible refine(cloneS kA kc k HS0.o.drew (HRk.o.new HC0.o.drew) hk').mono ?_);rintro x w1 ⟨A,c,rfl,k1,hs1⟩;have HS1:=ah hs1;have HC1:=ah (HC0.o.drew.tr k1);have c0:=hs1.up3.cell 0;have c1:=hs1.up3.cell 1;have c2:=hs1.up3.cell 2;have c3:=hs1.up3.cell 3;clear hs1 k1)
  | (go_simp;go_at_call 104;(with_reducible refine(cloneS vA vc v HS1.o (HRv.o.new HC1.o) hv').mono ?_);rintro x w2 ⟨B2,d,rfl,k2,hs2⟩;have HS2:=ah hs2;have HC2:=ah (HC1.o.tr k2);have c0:=hs2.up4.cell 0;have c1:=hs2.up4.cell 1;have c2:=hs2.up4.cell 2;have c3:=hs2.up4.cell 3;have f0:=hs2.up4.frozen 0;have f1:=hs2.up4.frozen 1;clear hs2 k2))
 all_goals
  have h5:=(HS2.o.up4.set 0 (.slice A k.length c)).set 1 (.slice B2 v.length d);clear f0 f1 c0 c1 c2 c3;revert h5;generalize World.setCell _ _ _=w3;intro h5;have c0:=h5.cell 0;have c1:=h5.cell 1;have c2:=h5.cell 2;have c3:=h5.cell 3;have d0:=h5.up4.cell 0;have d1:=h5.up4.cell 1;have d2:=h5.up4.cell 2;have d3:=h5.up4.cell 3;have f0:=h5.up4.frozen 0;have f1:=h5.up4.frozen 1;have f2:=h5.up4.frozen 2;have f3:=h5.up4.frozen 3;have h6:=(((h5.up4.set 0 (.slice A k.length c)).set 1 (.slice B2 v.length d)).set 2 (.int .i64 seq)).set 3 (.bool dead);go_wp2_with fail;revert h6;generalize World.setCell _ _ _=w4;intro h6;refine bodyPost_ret (results_cell_row (p:=2) (by kernel_rfl) _ _ B 120 _ (0,0) _ rfl h6.at Tryz.underlying120 rfl (by kernel_rfl)) rfl ?_;exact⟨A,c,B2,d,rfl,h6.right.right.up2⟩
theorem tcopied_any (e:En) (w0 w:World) (F:SP) (h:Sat w0 F w) (hr:EnR w e) (hk:e.key.2.2.length<=140737488355328) (hv:e.value.2.2.length<=140737488355328):
  Calls Tryz.prog 146 #[enA e] w fun x w'=>CopiedS w0 F e x w'/\Chg No w w':=by
 refine(tcopied0 e w hr hk hv).mono ?_;rintro x w' ⟨A,c,B,d,rfl,hs⟩;exact⟨⟨A,c,B,d,rfl,(h.join hs (owned_star (owned_row _ _ _ _ _) (owned_star (owned_row _ _ _ _ _) owned_emp))).of (by rw[star_assoc,star_assoc,emp_star])⟩,hs.chg⟩
def BoxE (w:World) (b:Nat) (e:En):Prop:=w.cell? ⟨b,0,none⟩=some (.slice e.key.1 e.key.2.2.length e.key.2.1)/\w.cell? ⟨b,1,none⟩=some (.slice e.value.1 e.value.2.2.length e.value.2.1)/\w.cell? ⟨b,2,none⟩=some (.int .i64 e.seq)/\w.cell? ⟨b,3,none⟩=some (.bool e.dead)
theorem BoxE.new {w w':World} {b:Nat} {e:En} (h:BoxE w b e) (k:Chg No w w'):BoxE w' b e:=⟨k.cell h.1 id,k.cell h.2.1 id,k.cell h.2.2.1 id,k.cell h.2.2.2 id⟩
theorem from1_any (bt be T:Nat) (es:List En) (e:En) (i:Nat) (w:World) (h:TabR w T es) (hb:w.cell? ⟨bt,0,none⟩=some (.pointer (some ⟨T,0,none⟩))) (he:BoxE w be e) (hr:EnR w e) (hi:i<es.length):
  Calls Tryz.prog 184 #[.int .i64 (i:Int),.pointer (some ⟨bt,0,none⟩),.pointer (some ⟨be,0,none⟩)] w fun x w'=>x = .returned (.bool (!lessE es[i].ent e.ent))/\Chg No w w':=by
 obtain⟨A,c,g,hh,n,a1,_,a3,a4,a5,_⟩:=h.box;obtain⟨lb,lo,rfl,hq⟩:=ents_at a3 (by omega);obtain⟨y0,y1,y2,y3⟩:=hq i hi;unfold slv' at y0 y1;obtain⟨e0,e1,e2,e3⟩:=he;have HE:=ah (h.rd _ (List.getElem_mem hi));have HR:=ah hr;have hii:(i:Int)<es.length:=by omega
 obtain⟨Z,hZ⟩: ∃ Z,lessE es[i].ent e.ent=Z:=⟨_,rfl⟩;have HZ:=ah hZ;rw[hZ];have S0:w.cell? ⟨bt,0,none⟩=some (.pointer (some ⟨T,0,none⟩))/\w.cell? ⟨T,0,none⟩=some (.slice (some ⟨lb,lo,none⟩) es.length c)/\w.cell? ⟨lb,lo+i*4,none⟩=some (.slice es[i].key.1 es[i].key.2.2.length es[i].key.2.1)/\w.cell? ⟨lb,lo+i*4+1,none⟩=some (.slice es[i].value.1 es[i].value.2.2.length es[i].value.2.1)/\w.cell? ⟨lb,lo+i*4+2,none⟩=some (.int .i64 es[i].seq)/\w.cell? ⟨lb,lo+i*4+3,none⟩=some (.bool es[i].dead)/\BoxE w be e:=⟨hb,a1,y0,y1,y2,y3,e0,e1,e2,e3⟩;have HS:=ah S0;clear h hb hr hq a3 hZ S0 a1 y0 y1 y2 y3 e0 e1 e2 e3;go_enter Tryz.func184, Tryz.ntmps184;go_upto_region 1 with fail;refine wp_region_held_drew (S:=fun w'=>w'.cell? ⟨bt,0,none⟩=some (.pointer (some ⟨T,0,none⟩))/\w'.cell? ⟨T,0,none⟩=some (.slice (some ⟨lb,lo,none⟩) es.length c)/\w'.cell? ⟨lb,lo+i*4,none⟩=some (.slice es[i].key.1 es[i].key.2.2.length es[i].key.2.1)/\w'.cell? ⟨lb,lo+i*4+1,none⟩=some (.slice es[i].value.1 es[i].value.2.2.length es[i].value.2.1)/\w'.cell? ⟨lb,lo+i*4+2,none⟩=some (.int .i64 es[i].seq)/\w'.cell? ⟨lb,lo+i*4+3,none⟩=some (.bool es[i].dead)/\w'.cell? ⟨be,0,none⟩=some (.slice e.key.1 e.key.2.2.length e.key.2.1)/\w'.cell? ⟨be,1,none⟩=some (.slice e.value.1 e.value.2.2.length e.value.2.1)/\w'.cell? ⟨be,2,none⟩=some (.int .i64 e.seq)/\w'.cell? ⟨be,3,none⟩=some (.bool e.dead)) (by kernel_rfl) HS.o ?_;intro hS0;refine rtk 0 ?_;refine rtk 1 ?_;refine rtk 2 ?_;refine rtk 3 ?_;refine rtk 4 ?_;refine rtk 5 ?_;refine rtk 6 ?_;refine rtk 7 ?_;refine rck 8 fun K hK=>?_
 go_simp;go_at_call 147;refine(less_any es[i] e _ ⟨HE.o.1.new (Chg.refl No w).drew,HE.o.2.new (Chg.refl No w).drew⟩ ⟨HR.o.1.new (Chg.refl No w).drew,HR.o.2.new (Chg.refl No w).drew⟩).mono ?_;rintro x w1 ⟨rfl,k1⟩;rw[HZ.o];have HK:=ah ((Chg.refl No w).drew.tr k1);clear k1
 refine hK.out _ _ ⟨HK.o.cell HS.o.1 id,HK.o.cell HS.o.2.1 id,HK.o.cell HS.o.2.2.1 id,HK.o.cell HS.o.2.2.2.1 id,HK.o.cell HS.o.2.2.2.2.1 id,HK.o.cell HS.o.2.2.2.2.2.1 id,(BoxE.new HS.o.2.2.2.2.2.2 HK.o)⟩ (fun hS0=>?_);clear hK K;refine rtk 9 ?_;refine rtk 10 ?_;refine wpAnyH_done (by kernel_rfl) ?_ _;go_wp2_with fail;go_ret;exact⟨rfl,HK.o⟩
def FirstAt (es:List En) (e:En) (k:Nat):Prop:=k<=es.length/\(∀ (j:Nat) (h:j<es.length),j<k->lessE es[j].ent e.ent=true)/\(∀ h:k<es.length,lessE es[k].ent e.ent=false)
structure SrAt (w:World) (es:List En) (e:En) (i j:Nat) (wr:World):Prop where
 lo: ∀ (m:Nat) (h:m<es.length),m<i->lessE es[m].ent e.ent=true
 hi: ∀ (m:Nat) (h:m<es.length),j<=m->lessE es[m].ent e.ent=false
 chg:Chg No w wr
theorem search_any (bt be T:Nat) (es:List En) (e:En) (w:World) (h:TabR w T es) (hb:w.cell? ⟨bt,0,none⟩=some (.pointer (some ⟨T,0,none⟩))) (he:BoxE w be e) (hr:EnR w e) (hn:es.length<=65536)
  (hmono: ∀ (a b:Nat) (ha:a<es.length) (hb:b<es.length),a<=b->lessE es[b].ent e.ent=true->lessE es[a].ent e.ent=true):
  Calls Tryz.prog 183 #[.int .i64 (es.length:Int),.func (.func 184) #[] #[.pointer (some ⟨bt,0,none⟩),.pointer (some ⟨be,0,none⟩)]] w fun x w'=> ∃ k:Nat,x = .returned (.int .i64 (k:Int))/\FirstAt es e k/\Chg No w w':=by
 have HT:=ah h;have HB:=ah hb;have HE:=ah he;have HR:=ah hr;have HM:=ah hmono;clear h hb he hr hmono;go_enter Tryz.func183, Tryz.ntmps183;go_wp2_with fail;go_loopw [5,6] (fun iv jv wr=> ∃ i j:Nat,i<=j/\j<=es.length/\iv = .int .i64 i/\jv = .int .i64 j/\Hid (SrAt w es e i j wr)) (fun iv jv _=>((intOf jv) - (intOf iv)).toNat)
 case atStart=>exact⟨0,es.length,by omega,by omega,rfl,rfl,fun m _ h=>by omega,fun m h h2=>by omega,Chg.refl _ _⟩
 case round=>
  obtain⟨i,j,hij,hj,rfl,rfl,HD⟩:=hrel;by_cases hlt:i<j
  .obtain⟨m,hm⟩: ∃ m,m=(i+j) / 2:=⟨_,rfl⟩;have hmi:i<=m:=by omega
   have hmj:m<j:=by omega
   have hml:m<es.length:=by omega
   have hw1:IntKind.u64.wrap ((i:Int)+(j:Int))=(i:Int)+j:=by rw[IntKind.wrap_u64];omega
   have hsh:((i:Int)+j) / 2=m:=by omega
   have hw2:IntKind.i64.wrap (m:Int)=m:=by rw[IntKind.wrap_i64];omega
   have HMm:=ah hm;clear hm;obtain⟨Z,hZ⟩: ∃ Z,lessE es[m].ent e.ent=Z:=⟨_,rfl⟩;have HZ:=ah hZ;clear hZ
   cases Z
   all_goals
    go_wp2_with (go_at_call 184;refine(from1_any bt be T es e m _ (HT.o.new HD.o.chg) (HD.o.chg.cell HB.o id) (HE.o.new HD.o.chg) ⟨HR.o.1.new HD.o.chg,HR.o.2.new HD.o.chg⟩ hml).mono ?_;rintro x w1 ⟨rfl,k1⟩;rw[HZ.o];have HK:=ah (HD.o.chg.tr k1);clear k1);go_roundw
   .exact⟨i,m,by omega,by omega,rfl,rfl,⟨HD.o.lo,fun a ha h2=>by
     cases hq:lessE es[a].ent e.ent with
     | false=>rfl
     | true=>rw[HM.o m a hml ha h2 hq] at HZ;exact absurd HZ.o (by simp),HK.o⟩⟩
   .simp[intOf];omega
   .exact⟨m+1,j,by omega,by omega,by push_cast;rfl,rfl,⟨fun a ha h2=>HM.o a m ha hml (by omega) HZ.o,HD.o.hi,HK.o⟩⟩
   .simp[intOf];omega
  .have hij2:i=j:=by omega
   subst hij2;go_wp2_with fail;go_ret;exact⟨i,rfl,⟨hj,fun a ha h2=>HD.o.lo a ha h2,fun h=>HD.o.hi i h (Nat.le_refl _)⟩,HD.o.chg⟩
theorem sorted_mono {l:List Ent} (h:sortedB l=true) (e:Ent): ∀ (d a:Nat) (ha:a<l.length) (hb:a+d<l.length),lessE l[a+d] e=true->lessE l[a] e=true
 | 0,_,_,_,hx=>hx
 | d+1,a,ha,hb,hx=>sorted_mono h e d a ha (by omega) (lte_trans ((sortedB_iff l).1 h (a+d) (by omega)) hx)
theorem buildE_sorted {L:List Ent} (h:buildE L=0):sortedB L=true:=by
 cases hs:sortedB L with
 | true=>rfl
 | false=>unfold buildE at h;rw[if_pos hs] at h;cases h
theorem TabR.mono {w:World} {T:Nat} {es:List En} (h:TabR w T es) (e:Ent) (a b:Nat) (ha:a<es.length) (hb:b<es.length) (hab:a<=b) (hx:lessE es[b].ent e=true):lessE es[a].ent e=true:=by
 obtain⟨d,rfl⟩: ∃ d,b=a+d:=⟨b - a,by omega⟩;have h1:=sorted_mono (buildE_sorted h.ok) e d a (by simpa using ha) (by simpa using hb);rw[List.getElem_map,List.getElem_map] at h1;exact h1 hx
theorem TabR.few {w:World} {T:Nat} {es:List En} (h:TabR w T es):es.length<=65536:=by
 have:=buildE_len h.ok;simpa using this
theorem FirstAt.at {es:List En} {e:En} {k:Nat} (h:FirstAt es e k):k=atN e.ent (es.map En.ent):=by
 obtain⟨h1,h2,h3⟩:=h;by_cases hk:k<es.length
 .refine at_here (by simpa using hk) (fun i hi hik=>?_) ?_
  .rw[List.getElem_map];exact h2 i (by simpa using hi) hik
  .rw[List.getElem_map];exact h3 hk
 .have hke:k=es.length:=by omega
  subst hke;have h4:=at_end (e:=e.ent) (L:=es.map En.ent) (fun i hi=>by rw[List.getElem_map];exact h2 i (by simpa using hi) (by simpa using hi));simpa using h4
theorem from_any (T:Nat) (es:List En) (e:En) (w:World) (h:TabR w T es) (hr:EnR w e):
  Calls Tryz.prog 144 #[.pointer (some ⟨T,0,none⟩),enA e] w fun x w'=>x = .returned (.int .i64 (atN e.ent (es.map En.ent):Nat))/\Chg No w w':=by
 obtain⟨w1,hw1⟩: ∃ w1,w1=w.alloc (.cells #[.pointer (some ⟨T,0,none⟩)] 176):=⟨_,rfl⟩;have s1:Sat w (Pt w.heap.size 176 #[.pointer (some ⟨T,0,none⟩)]*Emp) w1:=by rw[hw1];exact(Sat.start w).allocPt _ _
 have s2:=s1.allocPt 120 #[.slice e.key.1 e.key.2.2.length e.key.2.1,.slice e.value.1 e.value.2.2.length e.value.2.1,.int .i64 e.seq,.bool e.dead];have hsz:w1.heap.size=w.heap.size+1:=by rw[hw1];simp
 obtain⟨A,c,g,hh,n,a1,_⟩:=h.box;have b1:=s2.chg.cell a1 id;have HSr:=fun x:Unit=>search_any w.heap.size w1.heap.size T es e _ (h.new s2.chg) (s2.up2.cell 0) ⟨s2.cell 0,s2.cell 1,s2.cell 2,s2.cell 3⟩ ⟨hr.1.new s2.chg,hr.2.new s2.chg⟩ h.few (fun a b ha hb hab hx=>h.mono e.ent a b ha hb hab hx)
 have c0:=s2.up2.cell 0;have HC:=ah s2.chg;have HK:=ah HSr;unfold enA;clear h hr HSr s1;rw[hsz,hw1] at HK;rw[hw1] at b1 c0 HC;clear hsz;clear s2;go_enter Tryz.func144, Tryz.ntmps144;go_wp2_with (go_at_call 183;refine(HK.o ()).mono ?_;rintro x w3 ⟨k,rfl,hk,k3⟩;have HF:=ah hk;have HC3:=ah (HC.o.tr k3);clear hk k3);go_ret;exact⟨by rw[<-HF.o.at];rfl,HC3.o⟩
theorem TabR.small {w:World} {T:Nat} {es:List En} (h:TabR w T es): ∀ e ∈ es,e.key.2.2.length<=128/\e.value.2.2.length<=16384:=by
 intro e he;have h1:=h.ok;unfold buildE at h1;split at h1
 .cases h1
 .split at h1
  .cases h1
  .rename_i h2
   cases hm:mayE e.ent with
   | true=>have h3:=mayE_iff.1 hm;exact⟨h3.1,h3.2.1⟩
   | false=>exact absurd (.inr (List.any_eq_true.2 ⟨e.ent,List.mem_map_of_mem he,by rw[hm];rfl⟩)) h2
theorem info_entryT:(Tryz.prog.info? 120).map (fun i=>(i.zero,i.size,i.bytes))=some (some (.agg #[.slice none 0 0,.slice none 0 0,.int .i64 0,.bool false]),4,64):=by kernel_rfl
structure Rst (w:World) (tl:List UInt8) (l:List Ent) (qs:List En) (i:Nat) (fs:List En) (A:Option Addr) (c:Nat) (wr:World):Prop where
 told:l=fs.map En.ent++((qs.drop i).map En.ent).takeWhile (inB tl)
 len:fs.length=i
 sat:Sat w (Row 120 4 (.slice A fs.length c) fs.length (fs.flatMap enV)*OwnE fs) wr
theorem trange_any (F T:Slc) (Tb:Nat) (es:List En) (w:World) (hf:Rd w F.1 F.2.2) (ht:Rd w T.1 T.2.2) (h:TabR w Tb es):
  Calls Tryz.prog 107 #[.pointer (some ⟨Tb,0,none⟩),.slice F.1 F.2.2.length F.2.1,.slice T.1 T.2.2.length T.2.1] w (ToldE w (rngT F.2.2 T.2.2 (es.map En.ent))):=by
 obtain⟨fp,fc,fl⟩:=F;obtain⟨tp,tc,tl⟩:=T;have HTb:=ah h;have HF:Hid (Rd w fp fl):=hf;have HT:Hid (Rd w tp tl):=ht;obtain⟨A,c,g,hh,n,a1,_,a3,a4,a5,_⟩:=h.box;have HA1:=ah a1;obtain⟨L,hL⟩: ∃ L,L=es.map En.ent:=⟨_,rfl⟩;have HL:=ah hL;obtain⟨k,hkk⟩: ∃ k,k=atN (fromE fl) L:=⟨_,rfl⟩;have hkl:k<=es.length:=by rw[hkk];refine Nat.le_trans (at_le _ _) ?_;rw[hL];simp
 have HKK:=ah hkk;have HSm:=ah h.small;have HFew:=h.few;have HRd:=ah h.rd;have HB0:Hid (RdV w (if c=k then A else Option.map (fun x=>x.add (k*4)) A) ((es.drop k).flatMap enV)):=by
  by_cases hck:c=k
  .rw[List.drop_of_length_le (by omega)];exact RdV.nil _ _
  .have h1:=RdV.drop a3 (k:=k*4) (cap:=c*4) (by rw[ents_len];omega) (by rw[ents_len];omega);rw[<-ents_dp,if_neg (by omega)] at h1;rw[if_neg hck];exact h1
 rw[<-hL];show Calls _ _ #[_,.slice fp fl.length fc,.slice tp tl.length tc] w (ToldE w (rngT fl tl L));obtain⟨i0,hi0,hz0,hz1,hz2⟩:=info_parts info_entryT;clear hf ht h a1 a3 hL hkk;go_enter Tryz.func107, Tryz.ntmps107;go_upto_region 2 with fail;refine wp_region_held_drew (S:=fun w'=>w'.cell? ⟨Tb,0,none⟩=some (.slice A es.length c)) (by kernel_rfl) HA1.o ?_;intro hS0;refine rtk 0 ?_;refine rtk 1 ?_;refine rtk 2 ?_;refine rtk 3 ?_;refine rtk 4 ?_;refine rtk 5 ?_;refine rtk 6 ?_;refine rtk 10 ?_;refine rck 7 fun K hK=>?_
 go_simp;go_at_call 144;refine(from_any Tb es ⟨(fp,fc,fl),(none,0,[]),9223372036854775807,false⟩ _ (HTb.o.new (Chg.refl No w).drew) ⟨HF.o.new (Chg.refl No w).drew,Rd.nil _ _⟩).mono ?_;rintro x w1 ⟨rfl,k1⟩;rw[show (⟨(fp,fc,fl),(none,0,[]),9223372036854775807,false⟩:En).ent=fromE fl from rfl, <-HL.o, <-HKK.o];have HK:=ah ((Chg.refl No w).drew.tr k1);clear k1
 refine hK.out _ _ (HK.o.cell HA1.o id) (fun hS0=>?_);clear hK K;refine rtk 8 ?_;refine rtk 9 ?_;refine wpAnyH_done (by kernel_rfl) ?_ _;obtain⟨B,hB⟩: ∃ B,(if c=k then A else Option.map (fun x=>x.add (k*4)) A)=B:=⟨_,rfl⟩;rw[hB] at HB0 ⊢;clear hB;obtain⟨m,hm⟩: ∃ m,es.length - k=m:=⟨_,rfl⟩;obtain⟨d,hd⟩: ∃ d,c - k=d:=⟨_,rfl⟩;rw[hm,hd];have hmd:m<=d:=by omega
 obtain⟨qs,hqs⟩: ∃ qs,es.drop k=qs:=⟨_,rfl⟩;have HQl:Hid (qs.length=m):=by unfold Hid;rw[<-hqs,List.length_drop];exact hm
 have HQm:Hid (∀ e ∈ qs,e ∈ es):=fun e he=>by rw[<-hqs] at he;exact List.mem_of_mem_drop he
 have HTd:Hid (rngT fl tl L=(qs.map En.ent).takeWhile (inB tl)):=by unfold Hid rngT;rw[<-HKK.o,HL.o, <-List.map_drop,hqs]
 have hm6:m<=65536:=by omega
 rw[hqs] at HB0;clear hm hd hqs hkl;by_cases h0:tl=[]
 case' pos=>
  have HZ:=ah h0;rw[show tl.length=0 by rw[h0];rfl];have h1:True:=trivial;clear h0
 case' neg=>
  have HZ:=ah h0;have h1:¬ tl.length=0:=by simpa using h0
  clear h0
 all_goals
  clear hS0;go_wp2_with fail;go_loopw [7,20] (fun out iv wr=> ∃ (i:Nat) (fs:List En) (A2:Option Addr) (c2:Nat),i<=m/\iv = .int .i64 i/\out = .slice A2 fs.length c2/\Hid (Rst w tl (rngT fl tl L) qs i fs A2 c2 wr)) (fun _ iv _=>m - (intOf iv).toNat)
  case atStart=>exact⟨0,[],none,0,by omega,rfl,rfl,HTd.o,rfl,(((Sat.start w).new HK.o).row_nil _ 4).of (by rfl)⟩
  case round=>
   obtain⟨i,fs,A2,c2,hi,rfl,rfl,HD⟩:=hrel;by_cases hlt:i<m
   .have hil:i<qs.length:=by rw[HQl.o];exact hlt
    obtain⟨lb,lo,rfl,hq⟩:=ents_at HB0.o (by omega);obtain⟨y0,y1,y2,y3⟩:=hq i hil;unfold slv' at y0 y1;have z0:=HD.o.sat.chg.cell y0 id;have z1:=HD.o.sat.chg.cell y1 id;have z2:=HD.o.sat.chg.cell y2 id;have z3:=HD.o.sat.chg.cell y3 id;have HR:=ah (HRd.o _ (HQm.o _ (List.getElem_mem hil)));have hsm:=HSm.o _ (HQm.o _ (List.getElem_mem hil));have hk2:qs[i].key.2.2.length<=140737488355328:=by omega
    have hv3:qs[i].value.2.2.length<=140737488355328:=by omega
    have hlen:fs.length<=65536:=by have h1:=HD.o.len;omega
    have HTl:Hid (rngT fl tl L=fs.map En.ent++if inB tl qs[i].ent then qs[i].ent::((qs.drop (i+1)).map En.ent).takeWhile (inB tl) else []):=by
     have h2:=HD.o.told;rw[List.drop_eq_getElem_cons hil,List.map_cons,List.takeWhile_cons] at h2;exact h2
    have hin:inB tl qs[i].ent=(decide (tl=[]) || decide (Lib.compareBytes qs[i].key.2.2 tl<0)):=rfl;have HIn:=ah hin;clear hq y0 y1 y2 y3 hsm hin;go_wp2_with (first
     | (go_at_call 145;refine(cmpB_any qs[i].key (tp,tc,tl) _ (HR.o.1.new (HD.o.sat.chg.alloc _)) (HT.o.new (HD.o.sat.chg.alloc _))).mono ?_;rintro x wx ⟨rfl,rfl⟩)
     | (go_at_call 146;refine(tcopied_any qs[i] w _ _ (HD.o.sat.alloc' _) ⟨HR.o.1.new (HD.o.sat.chg.alloc _),HR.o.2.new (HD.o.sat.chg.alloc _)⟩ hk2 hv3).mono ?_;rintro x w6 ⟨⟨A3,c3,B3,d3,rfl,hs6⟩,k6⟩;have HS6:=ah hs6;clear hs6 k6;simp only[enA])
     | (at_builtin;refine wpList_appS rfl (.tmp 34) (.tmp 37) 116 rfl 120 i0 _ 4 64 Tryz.underlying116 hi0 hz0 hz1 hz2 rfl (by decide) (.slice A2 fs.length c2) fs.length (fs.flatMap enV) rfl w _ (by exact(HS6.o.alloc' _).up3) (some ⟨w6.heap.size,0,none⟩) 1 1 [.slice A3 qs[i].key.2.2.length c3,.slice B3 qs[i].value.2.2.length d3,.int .i64 qs[i].seq,.bool qs[i].dead] rfl (lit_rdv _ _ _) rfl (by intro u hu;simp at hu;rcases hu with rfl | rfl | rfl | rfl<;>rfl) (by unfold maxLen;omega) (by omega) ?_;intro A4 c4 w7 hs7;have HS7:=ah hs7;clear hs7))
    all_goals first
     | (go_ret
        have hB:inB tl qs[i].ent=false:=by
         have h2:=HZ.o;rw[HIn.o];simp[h2];omega
        refine⟨fs,A2,c2,rfl,?_,HD.o.sat.alloc' _⟩;rw[HTl.o,hB];simp)
     | (go_roundw
        .have hB:inB tl qs[i].ent=true:=by
          rw[HIn.o];have h2:=HZ.o;simp[h2]
          all_goals omega
         refine⟨i+1,fs++[⟨(A3,c3,qs[i].key.2.2),(B3,d3,qs[i].value.2.2),qs[i].seq,qs[i].dead⟩],A4,c4,by omega,by push_cast;rfl,by rw[List.length_append];rfl,?_,?_,?_⟩
         .rw[HTl.o,hB,if_pos rfl,List.map_append,List.append_assoc];rfl
         .rw[List.length_append,HD.o.len];rfl
         .refine HS7.o.of ?_;rw[ownE_snoc,List.flatMap_append,List.length_append];rfl
        .simp[intOf];omega)
   .have HTl:Hid (rngT fl tl L=fs.map En.ent):=by
     have h2:=HD.o.told;rw[List.drop_of_length_le (by rw[HQl.o];omega)] at h2;unfold Hid;simpa using h2
    go_wp2_with fail;go_ret;exact⟨fs,A2,c2,rfl,HTl.o.symm,HD.o.sat⟩
def prV (e:En):List Value:=[slv' e.key,slv' e.value]
theorem info_pr:(Tryz.prog.info? 65).map (fun i=>(i.zero,i.size,i.bytes))=some (some (.agg #[.slice none 0 0,.slice none 0 0]),2,48):=by kernel_rfl
def PairsT (w:World) (l:List Ent) (x:Ending) (w':World):Prop:= ∃ (es qs:List En) (B:Option Addr) (d:Nat),x = .returned (.slice B qs.length d)/\(∀ q ∈ qs,q ∈ es)/\qs.map En.ent=l/\
 Sat w (Row 65 2 (.slice B qs.length d) qs.length (qs.flatMap prV)*OwnE es) w'
theorem scan_cons (s:Int) (c:Option (List UInt8)) {L:List Ent} {i:Nat} (hi:i<L.length):scanE s c (L.drop i)=if s<L[i].seq\/c=some L[i].key then scanE s c (L.drop (i+1)) else (if L[i].dead=true then scanE s (some L[i].key) (L.drop (i+1)) else L[i]::scanE s (some L[i].key) (L.drop (i+1))):=by
 rw[List.drop_eq_getElem_cons hi];rfl
theorem scan_any (s most:Int) (b:Nat) (f t:Slc) (L:List Ent) (w:World) (hf:Calls Tryz.prog 125 #[.pointer (some ⟨b,0,none⟩),.slice f.1 f.2.2.length f.2.1,.slice t.1 t.2.2.length t.2.1] (w.alloc (.cells #[.int .i64 s] 135)) (ToldE (w.alloc (.cells #[.int .i64 s] 135)) L)) (hn:L.length<=1000000):
  Calls Tryz.prog 77 #[.agg #[.int .i64 s],.pointer (some ⟨b,0,none⟩),.slice f.1 f.2.2.length f.2.1,.slice t.1 t.2.2.length t.2.1,.int .i64 most] w (PairsT w ((scanE s none L).take most.toNat)):=by
 obtain⟨j0,hj,hy0,hy1,hy2⟩:=info_parts info_pr;have Hj:=ah hj;have Hy0:=ah hy0;have Hy1:=ah hy1;have Hy2:=ah hy2;have HF:=ah hf;have HS0:=ah ((Sat.start w).allocPt 135 #[.int .i64 s]);obtain⟨w1,hw1⟩: ∃ w1,w1=w.alloc (.cells #[.int .i64 s] 135):=⟨_,rfl⟩;rw[<-hw1] at HF HS0;have HW:=ah hw1;clear hf hj hy0 hy1 hy2 hw1;go_enter Tryz.func77, Tryz.ntmps77;go_upto_region 4 with fail;rw[<-HW.o];obtain⟨vb,hvb⟩: ∃ vb,vb=w.heap.size:=⟨_,rfl⟩;rw[<-hvb] at HS0;rw[<-hvb];clear hvb;go_wp2_with (go_at_call 125;(with_reducible refine HF.o.mono ?_);rintro e w2 ⟨es,A,c,rfl,hes,hs⟩);have HS2:=ah (HS0.o.join hs (owned_star (owned_row _ _ _ _ _) (owned_ownES _)));have HES:=ah hes;have hln:es.length<=1000000:=by have:=congrArg List.length hes;rw[List.length_map] at this;omega
 clear hes hs;have HS3:Hid (Sat w (Row 65 2 (.slice none 0 0) 0 []*(Row 120 4 (.slice A es.length c) es.length (es.flatMap enV)*(OwnE es*(Pt vb 135 #[.int .i64 s]*Emp)))) w2):=(HS2.o.of (star_assoc _ _ _)).row_nil 65 2;go_loopw [11,12,13,21] (fun ov kv bgv iv wr=> ∃ (i k d:Nat) (B:Option Addr) (K:Slc) (bg:Bool) (qs:List En),i<=es.length/\k<=i/\iv = .int .i64 (i:Int)/\ov = .slice B k d/\kv = .slice K.1 K.2.2.length K.2.1/\bgv = .bool bg/\Hid (k=qs.length/\(∀ q ∈ qs,q ∈ es)/\qs.map En.ent++scanE s (if bg=true then some K.2.2 else none) (L.drop i)=scanE s none L/\k<=most.toNat/\(K=(none,0,[])\/ ∃ e ∈ es,K=e.key)/\
  Sat w (Row 65 2 (.slice B k d) k (qs.flatMap prV)*(Row 120 4 (.slice A es.length c) es.length (es.flatMap enV)*(OwnE es*(Pt vb 135 #[.int .i64 s]*Emp)))) wr)) (fun _ _ _ iv _=>es.length - (intOf iv).toNat)
 case atStart=>exact⟨0,0,0,none,(none,0,[]),false,[],by omega,by omega,rfl,rfl,rfl,rfl,rfl,(fun q hq=>by cases hq),rfl,Nat.zero_le _,.inl rfl,HS3.o⟩
 case round=>
  obtain⟨i,k,d,B,K,bg,qs,hi,hki,rfl,rfl,rfl,rfl,HD⟩:=hrel;by_cases hlt:i<es.length
  .have hs0:=HD.o.2.2.2.2.2;have hown:=ownE_r (hs0.up3);obtain⟨lb,lo,rfl,hq⟩:=ents_at (hs0.up2.row_rdK) (by omega);obtain⟨y0,y1,y2,y3⟩:=hq i hlt;have HRi:=ah (hown _ (List.getElem_mem hlt));have HKr:Hid (Rd wr K.1 K.2.2):=by
    rcases HD.o.2.2.2.2.1 with h1 | ⟨e,he,h1⟩
    .rw[h1];exact fun hx=>absurd rfl hx
    .rw[h1];exact(hown e he).1
   have hPm:=ah (List.getElem_mem hlt);have HSc:Hid (scanE s (if bg=true then some K.2.2 else none) (L.drop i)=if s<es[i].seq\/(if bg=true then some K.2.2 else none)=some es[i].key.2.2 then scanE s (if bg=true then some K.2.2 else none) (L.drop (i+1)) else (if es[i].dead=true then scanE s (some es[i].key.2.2) (L.drop (i+1)) else es[i].ent::scanE s (some es[i].key.2.2) (L.drop (i+1)))):=by
    have hl:i<L.length:=by rw[<-HES.o,List.length_map];exact hlt
    have h9:=scan_cons s (if bg=true then some K.2.2 else none) hl;have h8:L[i]=es[i].ent:=by simp only[<-HES.o,List.getElem_map]
    rw[h8] at h9;exact h9
   have hii:(i:Int)<es.length:=by omega
   clear hq hown hs0;generalize es[i]=x at*
   obtain⟨⟨kA,kc,kl⟩,⟨vA,vc,vl⟩,sq,dd⟩:=x;replace y0:_=some (Value.slice kA kl.length kc):=y0;replace y1:_=some (Value.slice vA vl.length vc):=y1;replace y2:_=some (Value.int .i64 sq):=y2;replace y3:_=some (Value.bool dd):=y3;have hv0:=HD.o.2.2.2.2.2.up4.cell 0;go_upto_region 7 with fail;have hs2:=HD.o.2.2.2.2.2.allocPt 120 #[.slice kA kl.length kc,.slice vA vl.length vc,.int .i64 sq,.bool dd];obtain⟨W4,hW4⟩: ∃ W4,W4=wr.alloc (.cells #[.slice kA kl.length kc,.slice vA vl.length vc,.int .i64 sq,.bool dd] 120):=⟨_,rfl⟩;rw[<-hW4] at hs2;rw[<-hW4];obtain⟨bx,hbx⟩: ∃ bx,bx=wr.heap.size:=⟨_,rfl⟩;rw[<-hbx] at hs2;rw[<-hbx];have HK4:Hid (Rd W4 K.1 K.2.2/\Rd W4 kA kl):=by rw[hW4];exact⟨HKr.o.alloc _,RdV.alloc HRi.o.1 _⟩
   clear hW4 hbx y0 y1 y2 y3 hv0;have x0:=hs2.cell 0;have x1:=hs2.cell 1;have x2:=hs2.cell 2;have x3:=hs2.cell 3;have v0:=hs2.up5.cell 0;have HS4:=ah hs2;clear hs2;by_cases hsq:s<sq
   .have HN:Hid (scanE s (if bg=true then some K.2.2 else none) (L.drop i)=scanE s (if bg=true then some K.2.2 else none) (L.drop (i+1))):=by unfold Hid;rw[HSc.o,if_pos (.inl hsq)]
    go_wp2_with fail;go_roundw
    .exact⟨i+1,k,d,B,K,bg,qs,by omega,by omega,by push_cast;rfl,rfl,rfl,rfl,HD.o.1,HD.o.2.1,by rw[<-HN.o];exact HD.o.2.2.1,HD.o.2.2.2.1,HD.o.2.2.2.2.1,HS4.o.right⟩
    .simp[intOf];omega
   .cases bg
    .have HGo:Hid (scanE s (if false=true then some K.2.2 else none) (L.drop i)=if dd=true then scanE s (some kl) (L.drop (i+1)) else (⟨kl,vl,sq,dd⟩:Ent)::scanE s (some kl) (L.drop (i+1))):=by
      unfold Hid;rw[HSc.o,if_neg]
      .rfl
      .rintro (h1 | h1)
       .exact hsq h1
       .cases h1
     by_cases hm:most<=k
     .have HQ:Hid (qs.map En.ent=(scanE s none L).take most.toNat):=by
       have h1:=HD.o.2.2.1;have h2:=HD.o.2.2.2.1;have h3:=HD.o.1;have h4:most.toNat=(qs.map En.ent).length:=by rw[List.length_map];omega
       unfold Hid;rw[<-h1,h4,List.take_left]
      go_wp2_with fail;go_ret;have hk:=HD.o.1;subst hk;exact⟨es,qs,_,_,rfl,HD.o.2.1,HQ.o,by
       have h1:=HS4.o.right.drop2;exact(h1.of (by ac_rfl:_=(Pt vb 135 #[.int .i64 s])*(Row 65 2 (.slice B qs.length d) qs.length (qs.flatMap prV)*(OwnE es*Emp)))).right.of (by rw[star_comm (OwnE es) Emp,emp_star])⟩
     .have hm2:¬ (most:Int)<=(k:Int):=hm
      cases dd
      .have HS5:=ah ((HS4.o.alloc' (.cells #[.slice kA kl.length kc,.slice vA vl.length vc] 65)).up2);go_wp2_with (at_builtin;refine wpList_appS rfl (.tmp 48) (.tmp 54) 30 rfl 65 j0 _ 2 48 Tryz.underlying30 Hj.o Hy0.o Hy1.o Hy2.o rfl (by decide) (.slice B k d) k (qs.flatMap prV) rfl w _ (by exact HS5.o) (some ⟨W4.heap.size,0,none⟩) 1 1 [.slice kA kl.length kc,.slice vA vl.length vc] rfl (by exact(lit_rdv _ _ _)) rfl (by intro u hu;simp at hu;rcases hu with rfl | rfl<;>rfl) (by unfold maxLen;omega) (by omega) ?_;intro B5 d5 w5 hs5;have HS6:=ah hs5;clear hs5);go_roundw
       .refine⟨i+1,k+1,d5,B5,(kA,kc,kl),true,qs++[⟨(kA,kc,kl),(vA,vc,vl),sq,false⟩],by omega,by omega,by push_cast;rfl,rfl,rfl,rfl,by rw[List.length_append, <-HD.o.1];rfl,fun q hq=>?_,?_,by omega,.inr ⟨_,hPm.o,rfl⟩,?_⟩
        .rcases List.mem_append.1 hq with h1 | h1
         .exact HD.o.2.1 q h1
         .rw[List.mem_singleton.1 h1];exact hPm.o
        .have h1:=HD.o.2.2.1;rw[HGo.o] at h1;rw[List.map_append,List.append_assoc];exact h1
        .rw[List.flatMap_append];exact HS6.o.drop2
       .simp[intOf];omega
      .go_wp2_with fail;go_roundw
       .exact⟨i+1,k,d,B,(kA,kc,kl),true,qs,by omega,by omega,by push_cast;rfl,rfl,rfl,rfl,HD.o.1,HD.o.2.1,by have h1:=HD.o.2.2.1;rw[HGo.o] at h1;exact h1,HD.o.2.2.2.1,.inr ⟨_,hPm.o,rfl⟩,HS4.o.right⟩
       .simp[intOf];omega
    .by_cases he:kl=K.2.2
     .have HBq:Hid (Calls Tryz.prog 126 #[.slice kA kl.length kc,.slice K.1 K.2.2.length K.2.1] W4 fun e w'=>e = .returned (.bool true)/\W4=w'):=by
       have h1:=beq_any (kA,kc,kl) K W4 HK4.o.2 HK4.o.1;rw[decide_eq_true he] at h1;exact h1.mono fun e w' ⟨a,b⟩=>⟨a,b.symm⟩
      have HN:Hid (scanE s (if true=true then some K.2.2 else none) (L.drop i)=scanE s (if true=true then some K.2.2 else none) (L.drop (i+1))):=by
       unfold Hid;rw[HSc.o,if_pos];exact .inr (by rw[if_pos rfl];exact congrArg some he.symm)
      clear he;go_wp2_with (go_at_call 126;(with_reducible refine HBq.o.mono ?_);rintro e wx ⟨rfl,rfl⟩);go_roundw
      .exact⟨i+1,k,d,B,K,true,qs,by omega,by omega,by push_cast;rfl,rfl,rfl,rfl,HD.o.1,HD.o.2.1,by have h1:=HD.o.2.2.1;rw[HN.o] at h1;exact h1,HD.o.2.2.2.1,HD.o.2.2.2.2.1,HS4.o.right⟩
      .simp[intOf];omega
     .have HBq:Hid (Calls Tryz.prog 126 #[.slice kA kl.length kc,.slice K.1 K.2.2.length K.2.1] W4 fun e w'=>e = .returned (.bool false)/\W4=w'):=by
       have h1:=beq_any (kA,kc,kl) K W4 HK4.o.2 HK4.o.1;rw[decide_eq_false he] at h1;exact h1.mono fun e w' ⟨a,b⟩=>⟨a,b.symm⟩
      have HGo:Hid (scanE s (if true=true then some K.2.2 else none) (L.drop i)=if dd=true then scanE s (some kl) (L.drop (i+1)) else (⟨kl,vl,sq,dd⟩:Ent)::scanE s (some kl) (L.drop (i+1))):=by
       unfold Hid;rw[HSc.o,if_neg]
       .rfl
       .rintro (h1 | h1)
        .exact hsq h1
        .rw[if_pos rfl] at h1;injection h1 with h1;exact he h1.symm
      clear he;by_cases hm:most<=k
      .have HQ:Hid (qs.map En.ent=(scanE s none L).take most.toNat):=by
        have h1:=HD.o.2.2.1;have h2:=HD.o.2.2.2.1;have h3:=HD.o.1;have h4:most.toNat=(qs.map En.ent).length:=by rw[List.length_map];omega
        unfold Hid;rw[<-h1,h4,List.take_left]
       go_wp2_with (go_at_call 126;(with_reducible refine HBq.o.mono ?_);rintro e wx ⟨rfl,rfl⟩);go_ret;have hk:=HD.o.1;subst hk;exact⟨es,qs,_,_,rfl,HD.o.2.1,HQ.o,by
        have h1:=HS4.o.right.drop2;exact(h1.of (by ac_rfl:_=(Pt vb 135 #[.int .i64 s])*(Row 65 2 (.slice B qs.length d) qs.length (qs.flatMap prV)*(OwnE es*Emp)))).right.of (by rw[star_comm (OwnE es) Emp,emp_star])⟩
      .have hm2:¬ (most:Int)<=(k:Int):=hm
       cases dd
       .have HS5:=ah ((HS4.o.alloc' (.cells #[.slice kA kl.length kc,.slice vA vl.length vc] 65)).up2);go_wp2_with (first | (go_at_call 126;(with_reducible refine HBq.o.mono ?_);rintro e wx ⟨rfl,rfl⟩) | (at_builtin;refine wpList_appS rfl (.tmp 48) (.tmp 54) 30 rfl 65 j0 _ 2 48 Tryz.underlying30 Hj.o Hy0.o Hy1.o Hy2.o rfl (by decide) (.slice B k d) k (qs.flatMap prV) rfl w _ (by exact HS5.o) (some ⟨W4.heap.size,0,none⟩) 1 1 [.slice kA kl.length kc,.slice vA vl.length vc] rfl (by exact(lit_rdv _ _ _)) rfl (by intro u hu;simp at hu;rcases hu with rfl | rfl<;>rfl) (by unfold maxLen;omega) (by omega) ?_;intro B5 d5 w5 hs5;have HS6:=ah hs5;clear hs5));go_roundw
        .refine⟨i+1,k+1,d5,B5,(kA,kc,kl),true,qs++[⟨(kA,kc,kl),(vA,vc,vl),sq,false⟩],by omega,by omega,by push_cast;rfl,rfl,rfl,rfl,by rw[List.length_append, <-HD.o.1];rfl,fun q hq=>?_,?_,by omega,.inr ⟨_,hPm.o,rfl⟩,?_⟩
         .rcases List.mem_append.1 hq with h1 | h1
          .exact HD.o.2.1 q h1
          .rw[List.mem_singleton.1 h1];exact hPm.o
         .have h1:=HD.o.2.2.1;rw[HGo.o] at h1;rw[List.map_append,List.append_assoc];exact h1
         .rw[List.flatMap_append];exact HS6.o.drop2
        .simp[intOf];omega
       .go_wp2_with (go_at_call 126;(with_reducible refine HBq.o.mono ?_);rintro e wx ⟨rfl,rfl⟩);go_roundw
        .exact⟨i+1,k,d,B,(kA,kc,kl),true,qs,by omega,by omega,by push_cast;rfl,rfl,rfl,rfl,HD.o.1,HD.o.2.1,by have h1:=HD.o.2.2.1;rw[HGo.o] at h1;exact h1,HD.o.2.2.2.1,.inr ⟨_,hPm.o,rfl⟩,HS4.o.right⟩
        .simp[intOf];omega
  .have hie:i=es.length:=by omega
   subst hie;have HQ:Hid (qs.map En.ent=(scanE s none L).take most.toNat):=by
    have h1:=HD.o.2.2.1;rw[List.drop_eq_nil_of_le (by rw[<-HES.o,List.length_map];omega)] at h1;have h2:scanE s (if bg=true then some K.2.2 else none) []=[]:=by cases bg<;>rfl
    rw[h2,List.append_nil] at h1;unfold Hid;rw[<-h1,List.take_of_length_le (by rw[List.length_map, <-HD.o.1];exact HD.o.2.2.2.1)]
   go_wp2_with fail;go_ret;have hk:=HD.o.1;subst hk;exact⟨es,qs,_,_,rfl,HD.o.2.1,HQ.o,by
    have h1:=HD.o.2.2.2.2.2.drop2;exact(h1.of (by ac_rfl:_=(Pt vb 135 #[.int .i64 s])*(Row 65 2 (.slice B qs.length d) qs.length (qs.flatMap prV)*(OwnE es*Emp)))).right.of (by rw[star_comm (OwnE es) Emp,emp_star])⟩
section
variable {w0 w:World} {F:SP}
def GotV (w0:World) (F:SP) (q:Option (List UInt8)) (x:Ending) (w':World):Prop:= ∃ A c,x = .returned (.tuple #[.slice A (q.getD []).length c,.bool q.isSome])/\Sat w0 (Row 5 1 (.slice A (q.getD []).length c) (q.getD []).length ((q.getD []).map bv)*F) w'
theorem vget_any (tb hr:Nat) (ns:List Nd) (n:Nat) (s:Int) (K:Slc) (hk:Rd w K.1 K.2.2) (h:Sat w0 (SkipT tb hr ns*F) w) (ht:TabG ns n) (hn:n<=100000):
  Calls Tryz.prog 78 #[.agg #[.int .i64 s],.pointer (some ⟨tb,0,none⟩),.slice K.1 K.2.2.length K.2.1] w (GotV w0 (SkipT tb hr ns*F) (alE K.2.2 s (entsN ns))):=by
 have hs1:=h.allocPt 135 #[.int .i64 s];have hG:=get_any K s tb hr ns (w.alloc (.cells #[.int .i64 s] 135)) (hk.alloc _) (hs1.right.view ht.ok) ht.ok (ht.small hn);rw[show getE K.2.2 s ns=lkE K.2.2 s (entsN ns) by rw[get_list];exact getL_lk (entsN_pw ht.ok)] at hG;unfold alE;obtain⟨q,hq⟩: ∃ q,q=lkE K.2.2 s (entsN ns):=⟨_,rfl⟩;rw[<-hq] at hG ⊢;have HG:=ah hG;have HS1:=ah hs1;have hv0:=hs1.cell 0;clear hG hs1 hk ht hq h;obtain⟨W1,hW1⟩: ∃ W1,W1=w.alloc (.cells #[.int .i64 s] 135):=⟨_,rfl⟩;rw[<-hW1] at HG HS1 hv0;have HW:=ah hW1;clear hW1;go_enter Tryz.func78, Tryz.ntmps78;go_upto_region 1 with fail;rw[<-HW.o];obtain⟨vb,hvb⟩: ∃ vb,vb=w.heap.size:=⟨_,rfl⟩;rw[<-hvb] at HS1 hv0;rw[<-hvb];clear hvb HW;go_upto_region 2 with (go_at_call 127;(with_reducible refine HG.o.mono ?_);rintro e w2 ⟨⟨⟨gA,gc,gk⟩,⟨hA,hcc,hv⟩,gs,gd⟩,rfl,hg,hs2⟩;unfold enA;dsimp only;have HGe:=ah hg;have HS2:=ah (HS1.o.right.join hs2 (owned_ownES _));clear hg hs2)
 cases q with
 | none=>
  simp only[Option.isSome_none];have HS3:=ah (HS2.o.alloc' (.cells #[.slice gA gk.length gc,.slice hA hv.length hcc,.int .i64 gs,.bool gd] 120));clear HS2;go_wp2_with fail;go_ret2;exact⟨none,0,rfl,HS3.o.right.row_nil 5 1⟩
 | some e=>
  have he:(⟨gk,hv,gs,gd⟩:Ent)=e:=HGe.o;simp only[Option.isSome_some];subst he;have hs3:=HS2.o.allocPt 120 #[.slice gA gk.length gc,.slice hA hv.length hcc,.int .i64 gs,.bool gd];have x1:=hs3.cell 1;have x3:=hs3.cell 3;have HS3:=ah hs3;clear hs3 HGe
  cases gd
  .go_wp2_with fail;go_ret2;refine⟨hA,hcc,rfl,?_⟩;have h1:=HS3.o.right;exact(h1.of (by show (Row _ _ _ _ _*(Row 5 1 (.slice hA hv.length hcc) hv.length (hv.map bv)*Emp))*_=Row 5 1 (.slice gA gk.length gc) gk.length (gk.map bv)*(Row 5 1 (.slice hA hv.length hcc) hv.length (hv.map bv)*(SkipT tb hr ns*F));rw[star_assoc,star_assoc,emp_star];rfl)).right
  .go_wp2_with fail;go_ret2;exact⟨none,0,rfl,HS3.o.right.right.row_nil 5 1⟩
end
theorem now_any (b:Nat) (q:Int) (w:World) (hc:w.cell? ⟨b,4,none⟩=some (.int .i64 q)):Calls Tryz.prog 76 #[.pointer (some ⟨b,0,none⟩)] w fun x w'=>x = .returned (.agg #[.int .i64 q])/\Chg No w w':=by
 have hs:=(Sat.start w).allocPt 135 #[.int .i64 0];have hc2:=hs.chg.cell hc id;have HS2:=ah ((Sat.start w).allocPt 135 #[.int .i64 q]);have f0:=hs.frozen 0;clear hs hc;go_enter Tryz.func76, Tryz.ntmps76;go_wp2_with fail;refine bodyPost_ret (results_cell_row (p:=2) (by kernel_rfl) _ _ w.heap.size 135 _ (0,0) _ rfl HS2.o.at Tryz.underlying135 rfl (by kernel_rfl)) rfl ?_;exact⟨rfl,HS2.o.chg⟩
def ToldK (w0:World) (F:SP) (l:List Kv) (x:Ending) (w':World):Prop:= ∃ (es qs:List En) (B:Option Addr) (c:Nat),x = .returned (.slice B qs.length c)/\(∀ q ∈ qs,q ∈ es)/\qs.map (fun q=>pairE q.ent)=l/\
 Sat w0 (Row 65 2 (.slice B qs.length c) qs.length (qs.flatMap prV)*(OwnE es*F)) w'
section
variable {w0 w:World} {F:SP}
theorem get_st (b d s:Nat) (v:Sd) (K:Slc) (hk:Rd w K.1 K.2.2) (h:Sat w0 (DbP b d s v*F) w) (hL:v.L.length<=90000):
  Calls Tryz.prog 32 #[.pointer (some ⟨b,0,none⟩),.slice K.1 K.2.2.length K.2.1] w (GotV w0 (DbP b d s v*F) (alE K.2.2 v.seq v.L)):=by
 obtain⟨lg,L,sq,sn,few,nx⟩:=v;obtain⟨tb,hr,mb,ns,⟨ht,he⟩,hs0⟩:=h.db;dsimp only at hL ht he;have hs:=hs0.of (db_d ..);dsimp only at hs;have c3:w.cell? ⟨b,3,none⟩=some (.pointer (some ⟨tb,0,none⟩)):=hs.cell 3;have HNow:Hid (∀ W,Chg No w W->Calls Tryz.prog 76 #[.pointer (some ⟨b,0,none⟩)] W fun x w'=>x = .returned (.agg #[.int .i64 (sq:Int)])/\Chg No W w'):=fun W k=>now_any b sq W (k.cell (hs.cell 4) id)
 have HGet:Hid (∀ W,Chg No w W->Calls Tryz.prog 78 #[.agg #[.int .i64 (sq:Int)],.pointer (some ⟨tb,0,none⟩),.slice K.1 K.2.2.length K.2.1] W (GotV w0 (SkipT tb hr ns*(Pt b 113 (dbC d s lg tb sq mb nx false)*(MapP Tryz.prog 3 mb few (snV sn)*F))) (alE K.2.2 sq (entsN ns)))):=fun W k=>vget_any tb hr ns L.length sq K (hk.new k) (hs.up2.new k) ht (by omega)
 have C3:=ah c3;have HE:=ah he;have HT:=ah ht;have HDrew:Hid (Chg No w w.drew):=(Chg.refl No w).drew;rw[he] at HGet;clear h hs0 hs hk ht he;show Calls _ _ _ _ (GotV w0 (DbP b d s ⟨lg,L,sq,sn,few,nx⟩*F) (alE K.2.2 sq L));generalize alE K.2.2 sq L=q at*
 go_enter Tryz.func32, Tryz.ntmps32;go_upto_region 1 with fail;refine wp_region_held_drew (S:=fun w'=>w'.cell? ⟨b,3,none⟩=some (.pointer (some ⟨tb,0,none⟩))) (by kernel_rfl) (by exact c3) ?_;intro hS0;refine rtk 0 ?_;refine rtk 2 ?_;refine rtk 3 ?_;refine rtk 4 ?_;refine rtk 5 ?_;refine rtk 6 ?_;refine rck 1 fun K hK=>?_
 go_simp;go_at_call 76;(with_reducible refine(HNow.o _ HDrew.o).mono ?_);rintro e w2 ⟨rfl,k2⟩;have HK2:=ah (HDrew.o.tr k2);clear k2
 refine hK.out _ _ (HK2.o.cell C3.o id) (fun hS0=>?_);clear hK K;refine rck 7 fun K hK=>?_
 go_simp;go_at_call 78;(with_reducible refine(HGet.o _ HK2.o).mono ?_);rintro e w3 ⟨A,c,rfl,hs3⟩;have HS3:=ah hs3;clear hs3
 refine hK.out _ _ (HS3.o.up3.cell 3) (fun hS0=>?_);clear hK K;refine rtk 8 ?_;refine rtk 9 ?_;refine rtk 10 ?_;refine rtk 11 ?_;refine wpAnyH_done (by kernel_rfl) ?_ _;go_wp2_with fail;go_ret2;refine⟨A,c,rfl,?_⟩;have h1:=HS3.o.of (show _=Pt b 113 (dbC d s lg tb sq mb nx false)*(SkipT tb hr ns*(MapP Tryz.prog 3 mb few (snV sn)*(Row 5 1 (.slice A (q.getD []).length c) (q.getD []).length ((q.getD []).map bv)*F))) by ac_rfl);exact(Sat.dbI (v:=⟨lg,L,sq,sn,few,nx⟩) HT.o HE.o (by rw[db_d];exact h1)).up2
theorem vscan_any {tb hr:Nat} {ns:List Nd} {L:List Ent} (h:Sat w0 (SkipT tb hr ns*F) w) (ht:TabG ns L.length) (he:entsN ns=L) (hL:L.length<=90000) (q most:Int) (f t:Slc) (hf:Rd w f.1 f.2.2) (ht':Rd w t.1 t.2.2) {W:World} (k:Chg No w W):
  Calls Tryz.prog 77 #[.agg #[.int .i64 q],.pointer (some ⟨tb,0,none⟩),.slice f.1 f.2.2.length f.2.1,.slice t.1 t.2.2.length t.2.1,.int .i64 most] W (PairsT W ((scanE q none (rngL f.2.2 t.2.2 L)).take most.toNat)):=by
 have kA:Chg No w (W.alloc (.cells #[.int .i64 q] 135)):=k.alloc _;have h1:=range_any f.1 f.2.1 f.2.2 t.1 t.2.1 t.2.2 tb hr ns _ (hf.new kA) (ht'.new kA) ((h.new kA).view ht.ok) ht.ok (ht.small (by omega));rw[rangeG_rng ht,he] at h1;exact scan_any q most tb f t _ W h1 (by have:(rngL f.2.2 t.2.2 L).length<=L.length:=List.length_filter_le _ _;omega)
theorem scan_st (b d s:Nat) (v:Sd) (f t:Slc) (most:Int) (hf:Rd w f.1 f.2.2) (ht':Rd w t.1 t.2.2) (h:Sat w0 (DbP b d s v*F) w) (hL:v.L.length<=90000):
  Calls Tryz.prog 24 #[.pointer (some ⟨b,0,none⟩),.slice f.1 f.2.2.length f.2.1,.slice t.1 t.2.2.length t.2.1,.int .i64 most] w (ToldK w0 (DbP b d s v*F) ((cutM f.2.2 t.2.2 (viewE v.seq v.L)).take most.toNat)):=by
 obtain⟨lg,L,sq,sn,few,nx⟩:=v;obtain⟨tb,hr,mb,ns,⟨ht,he⟩,hs0⟩:=h.db;dsimp only at hL ht he;have hs:=hs0.of (db_d ..);dsimp only at hs;have c3:w.cell? ⟨b,3,none⟩=some (.pointer (some ⟨tb,0,none⟩)):=hs.cell 3;have hpw:L.Pairwise LTE:=he ▸ entsN_pw ht.ok;have HNow:Hid (∀ W,Chg No w W->Calls Tryz.prog 76 #[.pointer (some ⟨b,0,none⟩)] W fun x w'=>x = .returned (.agg #[.int .i64 (sq:Int)])/\Chg No W w'):=fun W k=>now_any b sq W (k.cell (hs.cell 4) id)
 have HSc:Hid (∀ W,Chg No w W->Calls Tryz.prog 77 #[.agg #[.int .i64 (sq:Int)],.pointer (some ⟨tb,0,none⟩),.slice f.1 f.2.2.length f.2.1,.slice t.1 t.2.2.length t.2.1,.int .i64 most] W (PairsT W ((scanE sq none (rngL f.2.2 t.2.2 L)).take most.toNat))):=fun W k=>vscan_any hs.up2 ht he hL sq most f t hf ht' k
 have C3:=ah c3;have HE:=ah he;have HT:=ah ht;have HS:=ah hs;have HPw:=ah hpw;have HDrew:Hid (Chg No w w.drew):=(Chg.refl No w).drew;clear h hs0 hs hf ht' ht he hpw;go_enter Tryz.func24, Tryz.ntmps24;go_upto_region 1 with fail;refine wp_region_held_drew (S:=fun w'=>w'.cell? ⟨b,3,none⟩=some (.pointer (some ⟨tb,0,none⟩))) (by kernel_rfl) (by exact c3) ?_;intro hS0;refine rtk 0 ?_;refine rtk 2 ?_;refine rtk 3 ?_;refine rtk 4 ?_;refine rtk 5 ?_;refine rtk 6 ?_;refine rtk 7 ?_;refine rtk 8 ?_;refine rck 1 fun K hK=>?_
 go_simp;go_at_call 76;(with_reducible refine(HNow.o _ HDrew.o).mono ?_);rintro e w2 ⟨rfl,k2⟩;have HK2:=ah (HDrew.o.tr k2);clear k2
 refine hK.out _ _ (HK2.o.cell C3.o id) (fun hS0=>?_);clear hK K;refine rck 9 fun K hK=>?_
 go_simp;go_at_call 77;(with_reducible refine(HSc.o _ HK2.o).mono ?_);rintro e w3 ⟨es,qs,B,c,rfl,hin,hqs,hs3⟩;have HIn:=ah hin;have HQs:=ah hqs;have HS3:=ah ((HS.o.new HK2.o).join hs3 (owned_star (owned_row _ _ _ _ _) (owned_ownES _)));clear hin hqs hs3
 refine hK.out _ _ (HS3.o.up2.cell 3) (fun hS0=>?_);clear hK K;refine rtk 10 ?_;refine wpAnyH_done (by kernel_rfl) ?_ _;go_wp2_with fail;go_ret;refine⟨es,qs,B,c,rfl,HIn.o,?_,?_⟩
 .have h2:=congrArg (List.map pairE) HQs.o;rw[List.map_map] at h2;rw[show (fun q:En=>pairE q.ent)=pairE ∘ En.ent from rfl,h2,List.map_take];show (viewE sq (rngL f.2.2 t.2.2 L)).take _=_;rw[view_cut HPw.o]
 .have h1:=HS3.o.of (show _=Pt b 113 (dbC d s lg tb sq mb nx false)*(SkipT tb hr ns*(MapP Tryz.prog 3 mb few (snV sn)*(Row 65 2 (.slice B qs.length c) qs.length (qs.flatMap prV)*(OwnE es*F)))) by ac_rfl);exact(Sat.dbI (v:=⟨lg,L,sq,sn,few,nx⟩) HT.o HE.o (by rw[db_d];exact h1)).of (by ac_rfl)
theorem off_st (b d s:Nat) (v:Sd) (h:Sat w0 (DbP b d s v*F) w):Calls Tryz.prog 70 #[.pointer (some ⟨b,0,none⟩)] w fun x w'=>x = .returned (.int .i64 21)/\Sat w0 F w':=by
 obtain⟨tb,hr,mb,ns,_,hs0⟩:=h.db;have hs:=hs0.of (db_d ..);have f7:=hs.frozen 7;have c7:=hs.cell 7;have HS:=ah (hs.set 7 (.bool true));clear h hs0 hs;go_enter Tryz.func70, Tryz.ntmps70;go_wp2_with fail;go_ret;exact⟨rfl,HS.o.right.right.right⟩
end
theorem level_any (i:Int) (b hr:Nat) (ns:List Nd) (w:World) (hv:View w b hr ns) (hok:NOk ns) (hsm:Small ns):
  Calls Tryz.prog 122 #[.pointer (some ⟨b,0,none⟩),.int .i64 i] w (ToldE w (levE i ns)):=by
 have HV:=ah hv;have HO:=ah hok;have HS:=ah hsm;have q0:=hv.head;clear hv hok hsm;by_cases h:0<=i/\i<8
 .obtain⟨h0,h8⟩:=h;have HL:Hid (levE i ns=witE [] i.toNat ns):=by unfold Hid levE;rw[if_pos ⟨h0,h8⟩]
  obtain⟨j,rfl⟩: ∃ j:Nat,i=j:=⟨i.toNat,by omega⟩;have hj:j<8:=by omega
  have q1:=HV.o.links j hj;have h1:¬ (j:Int)<0:=by omega
  have h2:¬ (8:Int)<=j:=by omega
  have h3:(j:Int)<8:=by omega
  obtain⟨PP,hPP⟩: ∃ PP,ptrN (nxt noT ns j) = .pointer PP:=⟨_,rfl⟩;rw[hPP] at q1;have HP:=ah hPP;clear hPP;go_enter Tryz.func122, Tryz.ntmps122;go_wp2_with (go_at_call 154;rw[<-HP.o];refine(within_any none 0 [] b hr ns [] ns j w (Rd.nil _ _) HV.o HO.o HS.o rfl hj).mono ?_;rintro x w1 ⟨es,A,c,rfl,he,hs⟩;have HE:=ah he;have HS1:=ah hs;clear he hs);go_ret;rw[HL.o];exact⟨es,A,c,rfl,HE.o,HS1.o⟩
 .have HL:Hid (levE i ns=[]):=by unfold Hid levE;rw[if_neg h]
  have h1:i<0\/(0<=i/\8<=i):=by omega
  rw[HL.o];clear h;rcases h1 with h1 | ⟨h1,h2⟩
  .go_enter Tryz.func122, Tryz.ntmps122;go_wp2_with fail;go_ret;exact told_none w
  .have h3:¬ i<0:=by omega
   go_enter Tryz.func122, Tryz.ntmps122;go_wp2_with fail;go_ret;exact told_none w
end Go.Proofs.YtmbaiglpgaoogaaGreat
