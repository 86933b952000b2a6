/- Joined, as they were built one by one: Ext9 Ext10 Ext11 Ext12 Ext13. -/
import Derived.Test.YtmbaiglpgaoogaaGreatW07
set_option maxHeartbeats 16000000
set_option linter.unusedVariables false
set_option maxRecDepth 100000
namespace Go.Proofs.YtmbaiglpgaoogaaGreat
open Go.RowKit Z
section
variable {w0 w:World} {F:SP}
theorem iD (A:Option Addr) (c:Nat) (l:List UInt8) (n:Nat) (hn:n=l.length) (z:Nat) (hz:bu l=z) (w:World) (h:Rd w A l) (hl:n<=8):
 Calls Tryz.prog 105 #[.slice A n c] w fun e w'=>e = .returned (.int .u64 (z:Int))/\w=w':=by
 subst hn;subst hz;exact(xx A c l w h hl).mono fun e w' ⟨h1,h2⟩=>⟨h1,h2.symm⟩
def KD (w0:World) (F:SP) (o:Option (Nat × List Hd)) (e:Ending) (w':World):Prop:=
 (o=none/\e = .returned (.tuple #[.int .u64 0,.slice none 0 0,.bool false])/\Sat w0 F w')\/
 ∃ turn hs V gs,o=some (turn,hs)/\e = .returned (.tuple #[.int .u64 (turn:Int),V,.bool true])/\gs.map (fun x=>x.2)=hs.map Hd.fl/\Sat w0 (Row 155 1 V gs.length (gs.map fun x=>aS x.1)*(aW gs*F)) w'
theorem JM:(Tryz.prog.info? 155).map (fun i=>(i.zero,i.size,i.bytes))=some (some (.pointer none),1,8):=by kernel_rfl
theorem py: ∀ (n:Nat) (r:List UInt8),eU (n+1) r=eU n r++[qL (r.drop (20*n))]
 | 0,r=>by simp[eU]
 | n+1,r=>by
  have ih:=py n (r.drop 20);rw[List.drop_drop] at ih;show qL r::eU (n+1) (r.drop 20)=(qL r::eU n (r.drop 20))++[qL (r.drop (20*(n+1)))];rw[ih,List.cons_append,show 20*(n+1)=20+20*n by omega]
theorem qt (r:List UInt8):oK (qL r):=by
 have h4: ∀ l:List UInt8,l.length<=4->bu l<4294967296:=fun l hl=>Nat.lt_of_lt_of_le (iB l) (Nat.le_trans (Nat.pow_le_pow_right (by decide) hl) (by decide))
 exact⟨h4 _ (by simp;omega),h4 _ (by simp;omega),h4 _ (by simp;omega),kZ _ (by simp;omega)⟩
theorem yY (A:Option Addr) (c:Nat) (b:List UInt8) (h:Sat w0 F w) (hb: ∀ W,Sat w0 F W->Rd W A b) (hl:b.length=512) (hc:512<=c) (hm:c<=9223372036854775807):
 Calls Tryz.prog 129 #[.slice A 512 c] w (KD w0 F (cY b)):=by
 obtain⟨i0,hi0',hz0',hz1',hz2'⟩:=info_parts JM;have hi0:=ah hi0';have hz0:=ah hz0';have hz1:=ah hz1';have hz2:=ah hz2';have HR:=ah hb;have HS:=ah h;have HL:=ah hl;have hr0:=hb w h;obtain⟨g,o,rfl,hcell⟩:=hr0 (by intro e;have:=congrArg List.length e;simp[hl] at this);have hc1:(4:Int)<=c:=by omega
 have hc2:(12:Int)<=c:=by omega
 have hc3:(512:Int)<=c:=by omega
 have hc13:¬ c=13:=by omega
 have hc4:¬ c=4:=by omega
 obtain⟨B,hB⟩: ∃ B,decide (b.take 4=lM)=B:=⟨_,rfl⟩;obtain⟨SA,hSA⟩: ∃ SA,SA=ByteArray.mk (b.take 4).toArray:=⟨_,rfl⟩;have hST:SA.toList=b.take 4:=by rw[hSA];simp
 have hcmp:(SA.toList==[84,68,88,49])=B:=by
  rw[hST, <-hB];show (b.take 4==lM)=_;by_cases e:b.take 4=lM
  .rw[e];simp
  .rw[decide_eq_false e];exact beq_eq_false_iff_ne.2 e
 clear hST;have ht4:(b.take 4).length=4:=by rw[List.length_take];omega
 have s1:(convert 41 9 (.slice (some ⟨g,o,none⟩) 4 c)).run Tryz.prog w = .ok (.string SA) w:=by
  have h9:=Rd.str (P:= Tryz.prog) (Rd.take (hb w h) 4) 41 9 5 Tryz.underlying41 Tryz.underlying5 Tryz.underlying9 c;rw[ht4] at h9;rw[hSA];exact h9
 obtain⟨x,hx⟩: ∃ x,x=b.getD 12 0:=⟨_,rfl⟩;have z12:w.cell? ⟨g,o+12,none⟩=some (.int .u8 (x.toNat:Int)):=by
  have h9:=hcell 12 (by simp[hl]);rw[h9,hx,List.getElem_map,List.getD_eq_getElem?_getD,List.getElem?_eq_getElem (by omega)];rfl
 have hx8:=x.toNat_lt;have hwx:IntKind.i64.wrap (x.toNat:Int)=x.toNat:=by rw[IntKind.wrap_i64];omega
 have HX:=ah hx;have HB:=ah hB;clear h hb hl hi0' hz0' hz1' hz2' hcell hSA ht4 hx hB;go_enter Tryz.func129, Tryz.ntmps129
 cases B
 .have HU:Hid (cY b=none):=by unfold Hid cY;rw[if_neg];rintro ⟨h9,_⟩;exact of_decide_eq_false HB.o h9
  go_wp2_with fail;go_ret3
  exact .inl ⟨HU.o,rfl,HS.o⟩
 .by_cases hx24:x.toNat<=24
  .have hx25:¬ (24:Int)<x.toNat:=by omega
   obtain⟨turn,htu⟩: ∃ t,bu ((b.drop 4).take 8)=t:=⟨_,rfl⟩;obtain⟨n,hn⟩: ∃ n,n=x.toNat:=⟨_,rfl⟩;have HU:Hid (cY b=some (turn,eU n (b.drop 13))):=by unfold Hid cY;rw[if_pos ⟨of_decide_eq_true HB.o,by rw[<-HX.o];exact hx24⟩,htu, <-HX.o,hn]
   have l8:8=((b.drop 4).take 8).length:=by rw[List.length_take,List.length_drop,HL.o];rfl
   have HT:Hid (Rd w (some ⟨g,o+4,none⟩) ((b.drop 4).take 8)):=by
    have h9:=Rd.drop (k:=4) (cap:=c) hr0 (by rw[HL.o];omega) (by rw[HL.o];omega);rw[if_neg hc4,Option.map_some,Addr.add_lit] at h9;exact h9.take 8
   have HG:=ah (iD (some ⟨g,o+4,none⟩) (c - 4) ((b.drop 4).take 8) 8 l8 turn htu w HT.o (by omega));rw[<-hn] at z12 hwx hx25;have hn24:n<=24:=by omega
   clear htu l8 hr0 hn hx24;go_upto_region 6 with (go_at_call 105;(with_reducible refine HG.o.mono ?_);rintro y wx ⟨rfl,rfl⟩)
   go_loopw [3,5,6,26] (fun fv rv _ iv wr=> ∃ (k:Nat) (C:Option Addr) (cc:Nat) (gs:List (Nat × Fl)),k<=n/\fv = .slice C k cc/\rv = .slice (some ⟨g,o+13+20*k,none⟩) (499 - 20*k) (c - 13 - 20*k)/\iv = .int .u8 (k:Int)/\Hid (gs.length=k/\gs.map (fun x=>x.2)=(eU k (b.drop 13)).map Hd.fl/\Sat w0 (Row 155 1 (.slice C k cc) k (gs.map fun x=>aS x.1)*(aW gs*F)) wr)) (fun _ _ _ iv _=>n - (intOf iv).toNat)
   case atStart=>exact⟨0,none,0,[],by omega,rfl,rfl,rfl,rfl,rfl,(HS.o.of (bf F).symm).aN _ 1⟩
   case round=>
    obtain⟨k,C,cc,gs,hk,rfl,rfl,rfl,HD⟩:=hrel;by_cases hlt:k<n
    .have hk2:(k:Int)<n:=by omega
     obtain⟨ro,hro⟩: ∃ r,r=o+13+20*k:=⟨_,rfl⟩;obtain⟨rl,hrl⟩: ∃ r,r=499 - 20*k:=⟨_,rfl⟩;obtain⟨rc,hrc⟩: ∃ r,r=c - 13 - 20*k:=⟨_,rfl⟩;obtain⟨q,hq⟩: ∃ q,q=(b.drop 13).drop (20*k):=⟨_,rfl⟩;have hql:q.length=rl:=by rw[hq,List.length_drop,List.length_drop,HL.o];omega
     have m1:(20:Int)<=rl:=by omega
     have m2:(20:Int)<=rc:=by omega
     have m3:(12:Int)<=rc:=by omega
     have m4:(8:Int)<=rc:=by omega
     have m5:(4:Int)<=rc:=by omega
     have m7:(rl:Int)<=rc:=by omega
     have m6:¬ rc=20:=by omega
     have m8:¬ rc=4:=by omega
     have m9:¬ rc=8:=by omega
     have m10:¬ rc=12:=by omega
     have HQ:Hid (∀ W,Sat w0 F W->Rd W (some ⟨g,ro,none⟩) q):=fun W hW=>by
      have h9:=Rd.drop (k:=13+20*k) (cap:=c) (HR.o W hW) (by rw[HL.o];omega) (by rw[HL.o];omega);rw[if_neg (by omega),Option.map_some,Addr.add_lit] at h9;rw[hq,List.drop_drop,hro,Nat.add_assoc];exact h9
     have HQ4:Hid (∀ W j,j<=12->0<j->Sat w0 F W->Rd W (some ⟨g,ro+j,none⟩) (q.drop j)):=fun W j hj hj0 hW=>by
      have h9:=Rd.drop (k:=j) (cap:=rc) (HQ.o W hW) (by omega) (by omega);rw[if_neg (by omega),Option.map_some,Addr.add_lit] at h9;exact h9
     obtain⟨n1,hn1⟩: ∃ z,bu (q.take 4)=z:=⟨_,rfl⟩;obtain⟨n2,hn2⟩: ∃ z,bu ((q.drop 4).take 4)=z:=⟨_,rfl⟩;obtain⟨n3,hn3⟩: ∃ z,bu ((q.drop 8).take 4)=z:=⟨_,rfl⟩;obtain⟨n4,hn4⟩: ∃ z,bu ((q.drop 12).take 8)=z:=⟨_,rfl⟩;have hok:=qt q;have HH:Hid (qL q=⟨n1,n2,n3,n4⟩):=by unfold Hid qL;rw[hn1,hn2,hn3,hn4]
     rw[HH.o] at hok;have b1:n1<4294967296:=hok.1;have b2:n2<4294967296:=hok.2.1;have b3:n3<4294967296:=hok.2.2.1;have v1:IntKind.i64.wrap (n1:Int)=n1:=by rw[IntKind.wrap_i64];omega
     have v2:IntKind.i64.wrap (n2:Int)=n2:=by rw[IntKind.wrap_i64];omega
     have v3:IntKind.i64.wrap (n3:Int)=n3:=by rw[IntKind.wrap_i64];omega
     have q4:4=(q.take 4).length:=by rw[List.length_take];omega
     have q44:4=((q.drop 4).take 4).length:=by rw[List.length_take,List.length_drop];omega
     have q84:4=((q.drop 8).take 4).length:=by rw[List.length_take,List.length_drop];omega
     have q12:8=((q.drop 12).take 8).length:=by rw[List.length_take,List.length_drop];omega
     have HG1:=ah fun (W:World) (hW:Sat w0 F W)=>iD (some ⟨g,ro,none⟩) rc (q.take 4) 4 q4 n1 hn1 W ((HQ.o W hW).take 4) (by omega)
     have HG2:=ah fun (W:World) (hW:Sat w0 F W)=>iD (some ⟨g,ro+4,none⟩) (rc - 4) ((q.drop 4).take 4) 4 q44 n2 hn2 W ((HQ4.o W 4 (by omega) (by omega) hW).take 4) (by omega)
     have HG3:=ah fun (W:World) (hW:Sat w0 F W)=>iD (some ⟨g,ro+8,none⟩) (rc - 8) ((q.drop 8).take 4) 4 q84 n3 hn3 W ((HQ4.o W 8 (by omega) (by omega) hW).take 4) (by omega)
     have HG4:=ah fun (W:World) (hW:Sat w0 F W)=>iD (some ⟨g,ro+12,none⟩) (rc - 12) ((q.drop 12).take 8) 8 q12 n4 hn4 W ((HQ4.o W 12 (by omega) (by omega) hW).take 8) (by omega)
     have HRw:Hid (eU (k+1) (b.drop 13)=eU k (b.drop 13)++[⟨n1,n2,n3,n4⟩]):=by unfold Hid;rw[py, <-hq,HH.o]
     have HN1:Hid (ro+20=o+13+20*(k+1)/\rl - 20=499 - 20*(k+1)/\rc - 20=c - 13 - 20*(k+1)):=by unfold Hid;omega
     have hk8:IntKind.u8.wrap ((k:Int)+1)=(k:Int)+1:=by rw[IntKind.wrap_u8];omega
     have hkn:k+1<=n:=hlt;have HS7:=ah HD.o.2.2.drew;obtain⟨B14,hB14⟩: ∃ B,wr.heap.size=B:=⟨_,rfl⟩;have HBd:Hid (wr.drew.heap.size=B14):=hB14;have HBe:Hid (wr.heap.size=B14):=hB14;clear hB14;rw[<-hro, <-hrl, <-hrc];clear hro hrl hrc hq hql hn1 hn2 hn3 hn4 hok b1 b2 b3 q4 q44 q84 q12 hlt;go_upto_region 7 with fail;refine wp_region_held_drew (S:=fun _=>True) (by kernel_rfl) trivial ?_;intro hS0;refine an 0 1 4 5 ?_;refine cw 8 9 ?_;refine bC 2 fun K hK=>?_
     go_simp;go_at_call 105;(with_reducible refine(HG1.o _ HS7.o.right.right).mono ?_);rintro y wx ⟨rfl,rfl⟩
     refine hK.out _ _ trivial (fun hS0=>?_);clear hK K;refine ca 3 ?_;refine bC 6 fun K hK=>?_
     go_simp;go_at_call 105;(with_reducible refine(HG2.o _ HS7.o.right.right).mono ?_);rintro y wx ⟨rfl,rfl⟩
     refine hK.out _ _ trivial (fun hS0=>?_);clear hK K;refine ca 7 ?_;refine bC 10 fun K hK=>?_
     go_simp;go_at_call 105;(with_reducible refine(HG3.o _ HS7.o.right.right).mono ?_);rintro y wx ⟨rfl,rfl⟩
     refine hK.out _ _ trivial (fun hS0=>?_);clear hK K;refine cw 11 12 ?_;refine ca 13 ?_;refine bC 14 fun K hK=>?_
     go_simp
     (try rw[HBd.o]);(try rw[HBe.o])
     refine hK.out _ _ trivial (fun hS0=>?_);clear hK K;refine ca 15 ?_;refine wpAnyH_done (by kernel_rfl) ?_ _;go_upto_region 8 with fail;have hs:=HD.o.2.2.ab 163 #[.int .i64 (n1:Int),.int .i64 (n2:Int),.int .i64 (n3:Int),.int .u64 0,.int .u64 0,.slice none 0 0];rw[HBe.o] at hs;revert hs;generalize World.alloc wr _=w14;intro hs;have hs:Sat w0 (Pt B14 163 (nR ⟨n1,n2,n3,0,0,[]⟩ (.slice none 0 0))*(Row 155 1 (.slice C k cc) k (gs.map fun x=>aS x.1)*(aW gs*F))) w14:=hs;replace hs:=hs.drew;revert hs;generalize World.drew w14=w8;intro hs;have HS8:=ah hs;clear hs;have c3:=HS8.o.cell 3;have f3:=HS8.o.frozen 3;go_upto_region 9 with (go_at_call 105;(with_reducible refine(HG4.o _ HS8.o.right.right.right).mono ?_);rintro y wx ⟨rfl,rfl⟩)
     have hs:=HS8.o.set 3 (.int .u64 (n4:Int));clear c3 f3;revert hs;generalize World.setCell _ _ _=w15;intro hs;have HS15:Hid (Sat w0 (Pt B14 163 (nR ⟨n1,n2,n3,n4,0,[]⟩ (.slice none 0 0))*(Row 155 1 (.slice C k cc) k (gs.map fun x=>aS x.1)*(aW gs*F))) w15):=ah hs;clear hs;go_wp2_with (at_builtin;refine av rfl (.tmp 49) (.tmp 51) 151 rfl 155 i0 _ 1 8 Tryz.underlying151 hi0.o hz0.o hz1.o hz2.o rfl (by decide) (.slice C k cc) k (gs.map fun x=>aS x.1) rfl w0 _ (by exact(HS15.o.aD _).ay) (some ⟨w15.heap.size,0,none⟩) 1 1 [aS B14] rfl (aR _ _ _) rfl (fun u hu=>by rw[List.mem_singleton.1 hu];rfl) (by unfold maxLen;omega) (by omega) ?_;intro A16 c16 w16 hs;have HS16:=ah hs;clear hs);refine⟨⟨k+1,A16,c16,gs++[(B14,⟨n1,n2,n3,n4,0,[]⟩)],hkn,rfl,by rw[HN1.o.1,HN1.o.2.1,HN1.o.2.2],by push_cast;rfl,?_⟩,by simp[intOf];omega⟩;refine⟨by rw[List.length_append,HD.o.1];rfl,by rw[List.map_append,HRw.o,List.map_append,HD.o.2.1];rfl,?_⟩;have h8:=(HS16.o.ay.mj [] (by simp)).aN 41 1;have h9:=Sat.ID (ks:=[]) (f:=⟨n1,n2,n3,n4,0,[]⟩) (v:= .slice none 0 0) (p:=B14) rfl (h8.of (show _=Pt B14 163 (nR ⟨n1,n2,n3,n4,0,[]⟩ (.slice none 0 0))*(Row 41 1 (.slice none 0 0) 0 []*(cd []*(Row 155 1 (.slice A16 (k+1) c16) (k+1) ((gs.map fun x=>aS x.1)++[aS B14])*(aW gs*F)))) by ac_rfl));rw[List.map_append,ju,Be];exact h9.of (by show _=Row _ 1 _ _ (_++[aS B14])*((aW gs*mV B14 ⟨n1,n2,n3,n4,0,[]⟩)*F);ac_rfl)
    .obtain rfl:k=n:=by omega
     have hk2:¬ (k:Int)<k:=by omega
     go_wp2_with fail;go_ret3
     refine .inr ⟨turn,_,_,gs,HU.o,rfl,HD.o.2.1,?_⟩;rw[HD.o.1];exact HD.o.2.2
  .have HU:Hid (cY b=none):=by unfold Hid cY;rw[if_neg];rintro ⟨_,h9⟩;rw[<-HX.o] at h9;exact hx24 h9
   have hx25:(24:Int)<x.toNat:=by omega
   go_wp2_with fail;go_ret3
   exact .inl ⟨HU.o,rfl,HS.o⟩
end
section
variable {w0 w:World} {F:SP} {d:Nat} {D:Dk}
def fR (D:Dk):Nat->Option aK
 | 0=>none
 | k+1=>eK D (fR D k) k
def oH:Option Nat->Value
 | some s=> .pointer (some ⟨s,0,none⟩)
 | none=> .pointer none
def K8:SP:=fun _=>False
def uF (d:Nat):Option Nat->Option aK->SP
 | some s,some S=>ag s d S
 | none,none=>bF
 | _,_=>K8
theorem Sat.uE {n:Nat} {A:Option Addr} {c:Nat} {l:List UInt8} (h:Sat w0 (Row 5 1 (.slice A n c) n (l.map bv)*F) w):Sat w0 (Rb A l*F) w:=by
 have h2:=h.ed;rw[qN (A,c,l)];exact h2
theorem Sat.no (h:Sat w0 (K8*F) w):False:=by
 obtain⟨c,x,h1,a,g,h2,h3,h4,h5⟩:=h;exact h4
theorem kh {p:Option Nat} (h:Sat w0 (uF d p none*F) w):p=none:=by
 cases p with
 | none=>rfl
 | some s=>exact h.no.elim
theorem mw {p:Option Nat} {S:aK} (h:Sat w0 (uF d p (some S)*F) w): ∃ s,p=some s:=by
 cases p with
 | none=>exact h.no.elim
 | some s=>exact⟨s,rfl⟩
theorem Sat.xy (h:Sat w0 (af d D*F) w) (i:Int) (h0:(D.read i).2=0) (ho:D.off=false) (hi:0<=i/\i<D.cells.length):(D.read i).1.length=512:=by
 obtain⟨C,cc,M,nm,vp,cs,ps,hr,hn,hs⟩:=h.uh;have ha:D.ask i=0:=Dk.Dl ho hi.1 hi.2;unfold Dk.read at h0 ⊢;rw[if_pos ha] at h0 ⊢
 cases hl:D.last i with
 | some b=>
  simp only;unfold Dk.last at hl;obtain⟨x,h1,h2⟩:=Option.map_eq_some_iff.1 hl;have h3:=List.mem_reverse.1 (List.mem_of_find?_eq_some h1);rw[hr.pend] at h3;obtain⟨y,hy,rfl⟩:=List.mem_map.1 h3;rw[<-h2];exact(hr.fitp y hy).2.1
 | none=>
  rw[hl] at h0;simp only at h0 ⊢;obtain⟨j,rfl⟩: ∃ j:Nat,i=j:=⟨i.toNat,by omega⟩;rw[Int.toNat_natCast,List.getElem?_eq_getElem (by omega)] at h0 ⊢;have hm:D.cells[j] ∈ cs.map fun x=>(x.1.2.2,x.2):=by rw[<-hr.cells];exact List.getElem_mem _
  obtain⟨y,hy,e⟩:=List.mem_map.1 hm;rw[<-e] at h0 ⊢;simp only at h0 ⊢
  cases ht:y.2 with
  | true=>rw[ht] at h0;simp at h0
  | false=>
   simp only[Bool.false_eq_true,if_false];rcases(hr.fitc y hy).2 with e1 | e1
   .rw[if_pos e1];simp
   .rw[if_neg (by intro e2;rw[e2] at e1;simp at e1)];exact e1
theorem pF (D:Dk) (i:Int) (ho:D.off=false) (hi:0<=i/\i<D.cells.length):(D.read i).2=0\/(D.read i).2=24:=by
 have ha:D.ask i=0:=Dk.Dl ho hi.1 hi.2;unfold Dk.read;rw[if_pos ha]
 cases D.last i with
 | some b=>exact .inl rfl
 | none=>
  simp only;split
  .rename_i b t _
   cases t
   .left;simp only[Bool.false_eq_true,if_false];split<;>rfl
   .right;rfl
  .exact .inl rfl
theorem lL {b:List UInt8} {turn:Nat} {hs:List Hd} (h:cY b=some (turn,hs)):hs.length<=24/\turn<18446744073709551616/\ ∀ x ∈ hs,oK x:=by
 have hrow: ∀ (n:Nat) (r:List UInt8),(eU n r).length=n/\ ∀ x ∈ eU n r,oK x:=fun n=>by
  induction n with
  | zero=>intro r;exact⟨rfl,by simp[eU]⟩
  | succ n ih=>
   intro r;obtain⟨h1,h2⟩:=ih (r.drop 20);refine⟨by show (eU n (r.drop 20)).length+1=_;rw[h1],fun x hx=>?_⟩;rcases List.mem_cons.1 (show x ∈ qL r::eU n (r.drop 20) from hx) with rfl | hx
   .exact qt r
   .exact h2 x hx
 unfold cY at h;split at h
 .rename_i h1;injection h with h
  injection h with h2 h3
  obtain⟨h4,h5⟩:=hrow (b.getD 12 0).toNat (b.drop 13);rw[<-h3];exact⟨by rw[h4];exact h1.2,by rw[<-h2];exact kZ _ (by simp;omega),h5⟩
 .cases h
def Kx (w0:World) (F:SP) (d:Nat) (D:Dk) (e:Ending) (w':World):Prop:=
 ∃ p,e = .returned (.tuple #[oH p,.int .i64 (cC D).2])/\Sat w0 (uF d p (cC D).1*(af d D*F)) w'
theorem sK (h:Sat w0 (af d D*F) w) (h2:2<=D.cells.length) (hN:D.cells.length<=65536):
 Calls Tryz.prog 90 #[.pointer (some ⟨d,0,none⟩)] w (Kx w0 F d D):=by
 have HS:=ah h;have HN:=ah hN;by_cases ho:D.off=true
 .have HRd:=ah (pR d D 0 w0 w F h);have HR:Hid (D.read ((0:Nat):Int)=([],21)):=Dt D _ ho;have HX:Hid (cC D=(none,21)):=by unfold Hid cC;rw[if_pos ho]
  clear h ho;go_enter Tryz.func90, Tryz.ntmps90;go_wp2_with fail;go_loopw [4,11] (fun sv iv wr=>sv = .pointer none/\iv = .int .i64 0/\wr=w) (fun _ iv _=>0)
  case atStart=>exact⟨rfl,rfl,rfl⟩
  case round=>
   obtain⟨rfl,rfl,rfl⟩:=hrel;go_wp2_with (go_at_call 128;(with_reducible refine HRd.o.mono ?_);rintro e w2 ⟨v,rfl,hs⟩;rw[show (D.read 0).2=21 from congrArg Prod.snd HR.o];have HS2:=ah hs;clear hs);go_ret2;refine⟨none,?_,?_⟩
   .rw[HX.o];rfl
   .rw[HX.o];exact HS2.o.right.of (bf _).symm
 .have ho':D.off=false:=by simpa using ho
  have HX:Hid (cC D=(fR D 2,0)):=by unfold Hid cC;rw[if_neg ho];rfl
  have HO:=ah ho';have HC:=ah h2;clear h ho ho' h2 hN;go_enter Tryz.func90, Tryz.ntmps90;go_wp2_with fail;go_loopw [4,11] (fun sv iv wr=> ∃ (k:Nat) (p:Option Nat),k<=2/\iv = .int .i64 (k:Int)/\sv=oH p/\Hid (Sat w0 (uF d p (fR D k)*(af d D*F)) wr)) (fun _ iv _=>2 - (intOf iv).toNat)
  case atStart=>exact⟨0,none,by omega,rfl,rfl,HS.o.of (bf _).symm⟩
  case round=>
   obtain⟨k,p,hk,rfl,rfl,HD⟩:=hrel;by_cases hlt:k<2
   .have hk2:(k:Int)<2:=by omega
    have hkl:k<D.cells.length:=by have:=HC.o;omega
    have HRd:=ah (pR d D k w0 wr _ HD.o.ay);have HB:Hid (fR D (k+1)=eK D (fR D k) k):=rfl;obtain⟨r,hr⟩: ∃ r,r=D.read k:=⟨_,rfl⟩;have HRe:=ah hr;have HL:Hid (r.2=0->r.1.length=512):=fun h9=>by rw[hr] at h9 ⊢;exact HD.o.ay.xy k h9 HO.o ⟨by omega,by omega⟩
    have hcode:r.2=0\/r.2=24:=by rw[hr];exact pF D k HO.o ⟨by omega,by omega⟩
    unfold Fp at HRd;rw[<-hr] at HRd;clear hr hkl hlt;obtain⟨b,e⟩:=r;have hm:k+1<=2:=by omega
    rcases hcode with h9 | h9
    .obtain rfl:e=0:=h9;have HU:Hid (fR D (k+1)=match cY b with | none=>fR D k | some (turn,hs)=>if jZ D.cells.length hs=true/\FR (fR D k) turn=true then some ⟨k,turn,hs.map Hd.fl⟩ else fR D k):=by
      unfold Hid;rw[HB.o];unfold eK;rw[<-HRe.o];rfl
     have hl:b.length=512:=HL.o rfl;have HRd2:Hid (Calls Tryz.prog 128 #[.pointer (some ⟨d,0,none⟩),.int .i64 (k:Int)] wr fun e w'=> ∃ A c,e = .returned (.tuple #[.slice A 512 c,.int .i64 0])/\512<=c/\c<=9223372036854775807/\Sat w0 (Rb A b*(af d D*(uF d p (fR D k)*F))) w'):=HRd.o.mono fun e w' ⟨v,he,hs⟩=>by
      rw[hl] at hs;obtain⟨A,c,rfl,hc1,hc2⟩:=hs.bm;exact⟨A,c,he,hc1,by unfold maxLen at hc2;omega,hs.uE⟩
     clear HB HRe HL HRd;go_upto_region 9 with (go_at_call 128;(with_reducible refine HRd2.o.mono ?_);rintro e w2 ⟨A,c,rfl,hc1,hc2,hs⟩;have HS2:=ah hs;clear hs)
     have HUn:=ah (yY A c b HS2.o (fun W hW=>hW.rd) hl hc1 hc2);have HBx:Hid (∀ turn hs,cY b=some (turn,hs)->hs.length<=24/\turn<18446744073709551616/\ ∀ x ∈ hs,oK x):=fun _ _ h=>lL h
     obtain⟨o,hob⟩: ∃ o,o=cY b:=⟨_,rfl⟩;rw[<-hob] at HUn HU HBx;clear hob hl hc1 hc2;go_upto_region 10 with (go_at_call 129;(with_reducible refine HUn.o.mono ?_);rintro e w3 hu;rcases hu with ⟨rfl,rfl,hs⟩ | ⟨turn,hds,V,gs,rfl,rfl,hg,hs⟩)
     .have HS3:=ah hs;clear hs;go_wp2_with fail;go_roundw
      .exact⟨k+1,p,hm,by push_cast;rfl,rfl,by rw[HU.o];exact(HS3.o.right).ay⟩
      .simp[intOf];omega
     .obtain⟨A2,c2,rfl,hd1,hd2⟩:=hs.bm;obtain⟨bx1,bx2,bx3⟩:=HBx.o turn hds rfl;have hgl:gs.length=hds.length:=by have:=congrArg List.length hg;simpa using this
      have hgh:gs.map (fun x=>x.2.hd)=hds:=by
       have h9:=congrArg (List.map Fl.hd) hg;rw[List.map_map,List.map_map] at h9;have h10:hds.map (Fl.hd ∘ Hd.fl)=hds:=by
        have:(Fl.hd ∘ Hd.fl)=id:=funext fun x=>rfl
        rw[this,List.map_id]
       rw[h10] at h9;exact h9
      have hs2:=hs.ay;have HLi:=DE (gs:=gs) (D:=D) (d:=d) (w0:=w0) (w:=w3) (F:=Row 155 1 (.slice A2 gs.length c2) gs.length (gs.map fun x=>aS x.1)*(Rb A b*(uF d p (fR D k)*F))) A2 c2 (hs.of (by ac_rfl)) (fun W hW=>aF.bG (hW.bp.aO)) (by omega) (fun x hx=>by
       have h9:x.2.hd ∈ gs.map (fun x=>x.2.hd):=List.mem_map_of_mem hx;rw[hgh] at h9;have h10:=bx3 _ h9;exact⟨h10.2.1,h10.2.2.1⟩) HN.o
      rw[hgh] at HLi;have HLi:=ah HLi;have HG:=ah hg;obtain⟨LB,hLB⟩: ∃ LB,LB=jZ D.cells.length hds:=⟨_,rfl⟩;rw[<-hLB] at HLi HU;have HT:=ah bx2;clear hs hs2 hg hgh hd1 hd2 hLB bx1 bx2 bx3 hgl HBx HUn HRd2
      cases LB
      .go_wp2_with (go_at_call 130;(with_reducible refine HLi.o.mono ?_);rintro e w4 ⟨rfl,hs⟩;have HS4:=ah hs;clear hs);go_roundw
       .refine⟨k+1,p,hm,by push_cast;rfl,rfl,?_⟩;rw[HU.o,if_neg (by simp)];exact HS4.o.right.ay.right.ay.right.ay
       .simp[intOf];omega
      .have HNew:Hid (∀ W s,Sat w0 (Pt s 153 #[aS d,.int .i64 (k:Int),.int .u64 (turn:Int),.slice A2 gs.length c2]*(aW gs*(af d D*(Row 155 1 (.slice A2 gs.length c2) gs.length (gs.map fun x=>aS x.1)*(Rb A b*(uF d p (fR D k)*F)))))) W->Sat w0 (ag s d ⟨k,turn,hds.map Hd.fl⟩*(af d D*F)) W):=fun W s hW=>by
        refine Sat.ek (S:=⟨k,turn,hds.map Hd.fl⟩) (ps:=gs) (v:= .slice A2 gs.length c2) HG.o ?_;refine(hW.fN.right.fN.right).of ?_;unfold aP
        ac_rfl
       obtain⟨o,ho⟩: ∃ o,o=fR D k:=⟨_,rfl⟩;rw[<-ho] at HU HD HLi HNew;clear ho
       cases o with
       | none=>
        obtain rfl:=kh HD.o;go_wp2_with (go_at_call 130;(with_reducible refine HLi.o.mono ?_);rintro e w4 ⟨rfl,hs⟩;have HS4:=ah hs;clear hs;unfold oH);go_roundw
        .refine⟨k+1,some w4.heap.size,hm,by push_cast;rfl,rfl,?_⟩;rw[HU.o,if_pos (by first | exact⟨rfl,rfl⟩ | exact⟨trivial,rfl⟩)];exact HNew.o _ _ (HS4.o.ab _ _)
        .simp[intOf];omega
       | some S0=>
        obtain⟨s0,rfl⟩:=mw HD.o;by_cases ht:(S0.turn:Int)<turn
        .go_wp2_with (go_at_call 130;(with_reducible refine HLi.o.mono ?_);rintro e w4 ⟨rfl,hs⟩;have HS4:=ah hs;clear hs;unfold oH;have g2:w4.cell? ⟨s0,2,none⟩=some (.int .u64 (S0.turn:Int)):=by (obtain⟨v,ps,_,h9⟩:=(HS4.o.fN).space;exact(h9.of dj).cell 2));go_roundw
         .refine⟨k+1,some w4.heap.size,hm,by push_cast;rfl,rfl,?_⟩;rw[HU.o,if_pos (by first | exact⟨rfl,decide_eq_true (by omega)⟩ | exact⟨trivial,decide_eq_true (by omega)⟩)];exact HNew.o _ _ (HS4.o.ab _ _)
         .simp[intOf];omega
        .go_wp2_with (go_at_call 130;(with_reducible refine HLi.o.mono ?_);rintro e w4 ⟨rfl,hs⟩;have HS4:=ah hs;clear hs;unfold oH;have g2:w4.cell? ⟨s0,2,none⟩=some (.int .u64 (S0.turn:Int)):=by (obtain⟨v,ps,_,h9⟩:=(HS4.o.fN).space;exact(h9.of dj).cell 2));go_roundw
         .refine⟨k+1,some s0,hm,by push_cast;rfl,rfl,?_⟩;rw[HU.o,if_neg (by rintro ⟨_,h9⟩;exact absurd (of_decide_eq_true h9) (by omega))];exact HS4.o.right.ay.right.ay.right.ay
         .simp[intOf];omega
    .obtain rfl:e=24:=h9;have HU:Hid (fR D (k+1)=fR D k):=by
      unfold Hid;rw[HB.o];unfold eK;rw[<-HRe.o];rfl
     have HRd2:Hid (Calls Tryz.prog 128 #[.pointer (some ⟨d,0,none⟩),.int .i64 (k:Int)] wr fun e w'=> ∃ v,e = .returned (.tuple #[v,.int .i64 24])/\Sat w0 (af d D*(uF d p (fR D k)*F)) w'):=HRd.o.mono fun e w' ⟨v,he,hs⟩=>⟨v,he,hs.right⟩
     clear HB HRe HL HRd;go_wp2_with (go_at_call 128;(with_reducible refine HRd2.o.mono ?_);rintro e w2 ⟨v,rfl,hs⟩;have HS2:=ah hs;clear hs);go_roundw
     .exact⟨k+1,p,hm,by push_cast;rfl,rfl,by rw[HU.o];exact HS2.o.ay⟩
     .simp[intOf];omega
   .have HK:Hid (k=2):=by unfold Hid;omega
    have hk2:¬ (k:Int)<2:=by omega
    go_wp2_with fail;go_ret2;refine⟨p,?_,?_⟩
    .rw[HX.o];rfl
    .rw[HX.o];have h9:=HD.o;rw[HK.o] at h9;exact h9
end
section
variable {w0 w:World} {F:SP} {d:Nat} {D:Dk}
structure wm (n:Nat) (S:aK):Prop where
 slot:S.slot<2
 turn:S.turn<18446744073709551616
 count:S.files.length<=24
 bare: ∀ f ∈ S.files,f.aa=[]/\f.life=0
 each: ∀ f ∈ S.files,oK f.hd/\2<=f.first/\1<=f.blocks/\(f.first+f.blocks<=n)
theorem wD {o:Option aK} {k:Nat} (hk:k<2) (ho: ∀ S,o=some S->wm D.cells.length S): ∀ S,eK D o k=some S->wm D.cells.length S:=fun S h=>by
 unfold eK at h;split at h
 .exact ho S h
 .split at h
  .exact ho S h
  .rename_i turn hs e;split at h
   .rename_i e2;injection h with h
    obtain⟨h1,h2,h3⟩:=lL e;have hl:=e2.1;unfold jZ at hl;rw[List.all_eq_true] at hl;subst h;refine⟨hk,h2,by rw[List.length_map];exact h1,fun f hf=>?_,fun f hf=>?_⟩
    .obtain⟨x,hx,rfl⟩:=List.mem_map.1 hf;exact⟨rfl,rfl⟩
    .obtain⟨x,hx,rfl⟩:=List.mem_map.1 hf;have h5:=of_decide_eq_true (hl x hx);have:x.fl.hd=x:=rfl;refine⟨by rw[this];exact h3 x hx,h5.1,h5.2.1,?_⟩;show x.first+x.blocks<=_;omega
   .exact ho S h
theorem xw {S:aK} (h:(cC D).1=some S):wm D.cells.length S:=by
 unfold cC at h;split at h
 .cases h
 .exact wD (by omega) (wD (by omega) (fun S h=>by cases h)) S h
theorem oE (D:Dk):(cC D).2=0\/(cC D).2=21:=by
 unfold cC;split
 .exact .inr rfl
 .exact .inl rfl
theorem rK (h:(cC D).2=21):(cC D).1=none:=by
 unfold cC at h ⊢;split
 .rfl
 .rename_i h1;rw[if_neg h1] at h
  cases h
theorem tw (S:aK) (D:Dk) (fs:List Fl) (R1 R2:Dk × Int) (h1:R1=D.write (gS S.slot:Int) (bN (gN S.turn) (fs.map Fl.hd))) (h2:R2=R1.1.flush):
 (R1.2≠0->S.put fs D=(S,R1.1,R1.2))/\(R1.2=0->R2.2≠0->S.put fs D=(S,R2.1,R2.2))/\(R1.2=0->R2.2=0->S.put fs D=(⟨gS S.slot,gN S.turn,fs⟩,R2.1,0)):=by
 have e:S.put fs D=if R1.2≠0 then (S,R1.1,R1.2) else if R2.2≠0 then (S,R2.1,R2.2) else (⟨gS S.slot,gN S.turn,fs⟩,R2.1,0):=by
  subst h2;subst h1;rfl
 rw[e];exact⟨fun h=>if_pos h,fun h h'=>by rw[if_neg (by simpa using h),if_pos h'],fun h h'=>by rw[if_neg (by simpa using h),if_neg (by simpa using h')]⟩
def KI (w0:World) (F:SP) (s d:Nat) (S:aK) (v V:Value) (gs:List (Nat × Fl)) (r:aK × Dk × Int) (e:Ending) (w':World):Prop:=
 e = .returned (.int .i64 r.2.2)/\(r.2.2≠0->r.1=S/\Sat w0 (Pt s 153 #[aS d,.int .i64 (S.slot:Int),.int .u64 (S.turn:Int),v]*(Row 155 1 V gs.length (gs.map fun x=>aS x.1)*(aW gs*(af d r.2.1*F)))) w')/\
  (r.2.2=0->r.1.files=gs.map (·.2)/\Sat w0 (aP s d r.1.slot r.1.turn V gs*(af d r.2.1*F)) w')
theorem wS {S:aK} {s:Nat} {v V:Value} {gs:List (Nat × Fl)} {e:Ending} {w':World} (h:Ka w0 F s d S.slot S.turn v V gs (D.write (gS S.slot:Int) (bN (gN S.turn) (gs.map fun x=>x.2.hd))) (D.write (gS S.slot:Int) (bN (gN S.turn) (gs.map fun x=>x.2.hd))).1.flush e w'):
 KI w0 F s d S v V gs (S.put (gs.map (·.2)) D) e w':=by
 have em:gs.map (fun x=>x.2.hd)=(gs.map (·.2)).map Fl.hd:=by rw[List.map_map];rfl
 obtain⟨c1,c2,c3⟩:=tw S D (gs.map (·.2)) _ _ rfl rfl;rw[em] at h;rcases h with ⟨h1,h2,h3⟩ | ⟨h1,h2,h3,h4⟩ | ⟨h1,h2,h3,h4⟩
 .rw[c1 h1];exact⟨h2,fun _=>⟨rfl,h3⟩,fun h9=>absurd h9 h1⟩
 .rw[c2 h1 h2];exact⟨h3,fun _=>⟨rfl,h4⟩,fun h9=>absurd h9 h2⟩
 .rw[c3 h1 h2];refine⟨h3,fun h9=>absurd rfl h9,fun _=>⟨rfl,h4.of ?_⟩⟩;rw[dj];rfl
theorem yA (h:Sat w0 (af d D*F) w) (h2:2<=D.cells.length) (hN:D.cells.length<=65536) (hw1:D.writes<=1000000000) (hw2:D.pend.length<=999999999) (hw3:D.armed<=9223372036854775807):
 Calls Tryz.prog 52 #[.pointer (some ⟨d,0,none⟩)] w fun e w'=>e = .returned (.int .i64 (fz D).2)/\Sat w0 (af d (fz D).1*F) w':=by
 have HRd:=ah (sK h h2 hN);have HN:=ah (And.intro hN (And.intro hw1 (And.intro hw2 hw3)));clear h h2 hN hw1 hw2 hw3;rcases oE D with hc | hc
 .have HF:Hid (fz D=(((((cC D).1).getD ⟨0,0,[]⟩).put [] D).2.1,((((cC D).1).getD ⟨0,0,[]⟩).put [] D).2.2)):=by
   unfold Hid fz;rw[if_neg (by rw[hc];simp)]
  have HOk:Hid (∀ S,(cC D).1=some S->wm D.cells.length S):=fun S h=>xw h
  unfold Kx at HRd;rw[hc] at HRd;clear hc;obtain⟨o,ho⟩: ∃ o,o=(cC D).1:=⟨_,rfl⟩;rw[<-ho] at HRd HF HOk;clear ho;have HPut:Hid (∀ (S:aK) (s:Nat) (v:Value) W,S.slot<2->S.turn<18446744073709551616->Sat w0 (Pt s 153 #[aS d,.int .i64 (S.slot:Int),.int .u64 (S.turn:Int),v]*(af d D*F)) W->
   Calls Tryz.prog 91 #[.pointer (some ⟨s,0,none⟩),.slice none 0 0] W fun e w'=>e = .returned (.int .i64 (S.put [] D).2.2)/\Sat w0 (af d (S.put [] D).2.1*F) w'):=fun S s v W h1 h2 hW=>by
   have h3:=((hW.ay.of (show _=bF*(af d D*(Pt s 153 #[aS d,.int .i64 (S.slot:Int),.int .u64 (S.turn:Int),v]*F)) by rw[bf])).aN 155 1);have h4:=zK (s:=s) (d:=d) (w0:=w0) (w:=W) (slot:=S.slot) (turn:=S.turn) (v:=v) (V:= .slice none 0 0) (gs:=[]) (F:=F) (D:=D) (h3.of (by show _=Pt _ _ _*(Row _ _ _ 0 []*(bF*_));ac_rfl)) (by simp) h1 h2 (by simp) HN.o.2.1 HN.o.2.2.1 HN.o.2.2.2;refine h4.mono fun e w' h5=>?_
   obtain⟨k1,k2,k3⟩:=wS h5;refine⟨k1,?_⟩;by_cases h9:(S.put ((List.map (fun x=>x.2) ([]:List (Nat × Fl)))) D).2.2=0
   .exact(k3 h9).2.right
   .exact(k2 h9).2.right.right.right
  cases o with
  | none=>
   go_enter Tryz.func52, Tryz.ntmps52;go_upto_region 2 with (go_at_call 90;(with_reducible refine HRd.o.mono ?_);rintro e w2 ⟨p,rfl,hs⟩;obtain rfl:=kh hs;unfold oH;have HS2:=ah hs;clear hs)
   go_upto_region 6 with fail;have hs:=HS2.o.right.ab 153 #[.pointer (some ⟨d,0,none⟩),.int .i64 0,.int .u64 0,.slice none 0 0];have HP:=ah (HPut.o ⟨0,0,[]⟩ _ _ _ (by show 0<2;omega) (by show 0<_;omega) hs);clear hs;go_wp2_with (go_at_call 91;(with_reducible refine HP.o.mono ?_);rintro e w3 ⟨rfl,hs⟩;have HS3:=ah hs;clear hs);go_ret;rw[HF.o];exact⟨rfl,HS3.o⟩
  | some S=>
   have hok:=HOk.o S rfl;have HSl:=ah hok.slot;have HTu:=ah hok.turn;clear hok;go_enter Tryz.func52, Tryz.ntmps52;go_upto_region 2 with (go_at_call 90;(with_reducible refine HRd.o.mono ?_);rintro e w2 ⟨p,rfl,hs⟩;obtain⟨s,rfl⟩:=mw hs;unfold oH;obtain⟨v,ps,_,h9⟩:=hs.space;have HP:=ah (HPut.o S s v w2 HSl.o HTu.o ((h9.of dj).bp.right.ay.right));clear hs h9)
   go_wp2_with (go_at_call 91;(with_reducible refine HP.o.mono ?_);rintro e w3 ⟨rfl,hs⟩;have HS3:=ah hs;clear hs);go_ret;rw[HF.o];exact⟨rfl,HS3.o⟩
 .have HF:Hid (fz D=(D,21)):=by unfold Hid fz;rw[if_pos hc]
  have hn:=rK hc;unfold Kx at HRd;rw[hc,hn] at HRd;clear hc hn;go_enter Tryz.func52, Tryz.ntmps52;go_wp2_with (go_at_call 90;(with_reducible refine HRd.o.mono ?_);rintro e w2 ⟨p,rfl,hs⟩;obtain rfl:=kh hs;unfold oH;have HS2:=ah hs;clear hs);go_ret;rw[HF.o];exact⟨rfl,HS2.o.right⟩
end
section
variable {w0 w:World} {F:SP} {d q:Nat} {D:Dk} {f:Fl}
theorem wM (D:Dk) (birth first:Nat): ∀ k,(aV D birth first k).last<18446744073709551616/\(aV D birth first k).aG<18446744073709551616
 | 0=>⟨by show 0<_;omega,by show 0<_;omega⟩
 | k+1=>by
  obtain⟨h1,h2⟩:=wM D birth first k
  have h3:fS (D.read ((first+k:Nat):Int)).1<18446744073709551616:=kZ _ (by simp;omega);rw[fW];unfold en;split
  .exact⟨h1,h2⟩
  .split
   .exact⟨h1,h2⟩
   .split
    .exact⟨h1,Nat.max_lt.2 ⟨h2,h3⟩⟩
    .exact⟨h3,Nat.max_lt.2 ⟨h2,h3⟩⟩
theorem wJ (D:Dk) (birth first:Nat): ∀ k,(aV D birth first k).aa.length<=k
 | 0=>Nat.le_refl _
 | k+1=>by
  have h:=wJ D birth first k
  rw[fW];unfold en;split
  .show (aV D birth first k).aa.length<=_;omega
  .split
   .show (aV D birth first k).aa.length<=_;omega
   .split
    .show (aV D birth first k).aa.length<=_;omega
    .show (_++[_]).length<=_;rw[List.length_append];show _+1<=_;omega
def Hb (q d:Nat) (f:Fl) (D:Dk) (v:Value) (ks:bY):SP:=Pt q 163 (nR f v)*(Row 41 1 v ks.length (ks.map aI)*(cd ks*af d D))
theorem mM {v:Value} {ks:bY}:Hb q d f D v ks*F=Pt q 163 (nR f v)*(Row 41 1 v ks.length (ks.map aI)*(cd ks*(af d D*F))):=by unfold Hb;ac_rfl
theorem Ez (h:Sat w0 (mV q f*(af d D*F)) w) (hfr:f.aa=[]) (ho:D.off=false) (hn:f.first+f.blocks<=D.cells.length) (hN:D.cells.length<=65536) (hb:f.birth<18446744073709551616):
 Calls Tryz.prog 92 #[.pointer (some ⟨q,0,none⟩),.pointer (some ⟨d,0,none⟩)] w fun e w'=>e = .returned (.int .i64 0)/\Sat w0 (mV q (Fl.load D f)*(af d D*F)) w':=by
 obtain⟨i0,hi0',hz0',hz1',hz2'⟩:=info_parts AF;have hi0:=ah hi0';have hz0:=ah hz0';have hz1:=ah hz1';have hz2:=ah hz2';obtain⟨v5,ks0,hks0,hfl⟩:=h.fl;rw[hfr] at hks0;obtain rfl:ks0=[]:=by
  cases ks0 with
  | nil=>rfl
  | cons x l=>simp[bK] at hks0
 obtain⟨B0,bc0,rfl,hu1,hu2⟩:=hfl.ay.bm;have HS:=ah (hfl.of mM.symm);have y2:w.cell? ⟨q,2,none⟩=some (.int .i64 (f.blocks:Int)):=hfl.cell 2;have HO:=ah ho;have HN:=ah hN;have Hn:=ah hn;have HB:=ah hb;have HE:Hid (∀ m frs,Fl.load D f={ f with life:=m,aa:=frs }->True):=fun _ _ _=>trivial
 have HLd:Hid (∀ st:JS,aV D f.birth f.first f.blocks=st->Fl.load D f={ f with life:=(st.aG+1) % 18446744073709551616,aa:=st.aa }):=fun st h9=>by
  unfold Fl.load;rw[h9,hfr];rfl
 have hbl16:f.blocks<=65536:=by omega
 clear h hfl hks0 hi0' hz0' hz1' hz2' ho hn hN hb hfr HE hu1 hu2;go_enter Tryz.func92, Tryz.ntmps92;go_wp2_with fail;go_loopw [5,6,7,17] (fun ov lv mv iv wr=> ∃ (k:Nat) (st:JS) (C:Option Addr) (cc:Nat) (ks:bY),k<=f.blocks/\ov = .bool st.over/\lv = .int .u64 (st.last:Int)/\mv = .int .u64 (st.aG:Int)/\iv = .int .i64 (k:Int)/\Hid (st=aV D f.birth f.first k/\bK ks=st.aa/\Sat w0 (Hb q d f D (.slice C ks.length cc) ks*F) wr)) (fun _ _ _ iv _=>f.blocks - (intOf iv).toNat)
 case atStart=>exact⟨0,⟨false,0,0,[]⟩,B0,bc0,[],by omega,rfl,rfl,rfl,rfl,rfl,rfl,HS.o⟩
 case round=>
  obtain⟨k,st,C,cc,ks,hk,rfl,rfl,rfl,rfl,HD⟩:=hrel;obtain⟨over,last,aG,frs⟩:=st;dsimp only;have hsm:=wM D f.birth f.first k;have hct:=wJ D f.birth f.first k;rw[<-HD.o.1] at hsm hct;obtain⟨hs1,hs2⟩:=hsm;dsimp only at hs1 hs2 hct;have hkl:ks.length=frs.length:=by have:=congrArg List.length HD.o.2.1;rw[bK,List.length_map] at this;exact this
  have hks16:ks.length<=65536:=by omega
  clear hkl;have HKs:Hid (bK ks=frs):=HD.o.2.1;by_cases hlt:k<f.blocks
  .have hk2:(k:Int)<f.blocks:=by omega
   have hm:k+1<=f.blocks:=hlt;have y1:wr.cell? ⟨q,1,none⟩=some (.int .i64 (f.first:Int)):=(HD.o.2.2.of mM).cell 1;obtain⟨J,hJ⟩: ∃ J,J=f.first+k:=⟨_,rfl⟩;have hJn:(f.first:Int)+(k:Int)=(J:Int):=by omega
   have hJs:J<D.cells.length:=by have:=Hn.o;omega
   have hJ16:J<65536:=by have:=HN.o;omega
   have hwJ:IntKind.i64.wrap (J:Int)=J:=by rw[IntKind.wrap_i64];omega
   have HSt:Hid (aV D f.birth f.first (k+1)=en f.birth (D.read (J:Int)) ⟨over,last,aG,frs⟩):=by unfold Hid;rw[fW, <-HD.o.1,hJ]
   obtain⟨r,hr⟩: ∃ r,r=D.read (J:Int):=⟨_,rfl⟩;have hcode:r.2=0\/r.2=24:=by rw[hr];exact pF D J HO.o ⟨by omega,by omega⟩
   have HL:Hid (r.2=0->r.1.length=512):=fun h9=>by rw[hr] at h9 ⊢;exact((HD.o.2.2.of mM).bL).xy J h9 HO.o ⟨by omega,by omega⟩
   have HRd:=ah (pR d D J w0 wr _ (HD.o.2.2.of mM).bL);unfold Fp at HRd;rw[<-hr] at HSt HRd;clear hr hlt hJ hJs hct;have hb16:=hbl16;generalize hbirth:f.birth=birth at*
   obtain⟨b,e⟩:=r;rcases hcode with h9 | h9
   .obtain rfl:e=0:=h9;have hl:b.length=512:=HL.o rfl;have HRd2:Hid (Calls Tryz.prog 128 #[.pointer (some ⟨d,0,none⟩),.int .i64 (J:Int)] wr fun e w'=> ∃ g o c,e = .returned (.tuple #[.slice (some ⟨g,o,none⟩) 512 c,.int .i64 0])/\512<=c/\c<=9223372036854775807/\Sat w0 (Rb (some ⟨g,o,none⟩) b*(Hb q d f D (.slice C ks.length cc) ks*F)) w'):=HRd.o.mono fun e w' ⟨v,he,hs⟩=>by
     dsimp only at hs;rw[hl] at hs;obtain⟨A,c,rfl,hc1,hc2⟩:=hs.bm;obtain⟨g,o,rfl,_⟩:=hs.uE.rd (by intro e;rw[List.map_eq_nil_iff] at e;rw[e] at hl;simp at hl);refine⟨g,o,c,he,hc1,by unfold maxLen at hc2;omega,hs.uE.of ?_⟩;unfold Hb;ac_rfl
    obtain⟨z1,hz1⟩: ∃ z,bu (b.take 8)=z:=⟨_,rfl⟩;obtain⟨z2,hz2⟩: ∃ z,bu ((b.drop 16).take 2)=z:=⟨_,rfl⟩;obtain⟨z3,hz3⟩: ∃ z,bu ((b.drop 8).take 8)=z:=⟨_,rfl⟩;have q1:8=(b.take 8).length:=by rw[List.length_take];omega
    have q2:2=((b.drop 16).take 2).length:=by rw[List.length_take,List.length_drop];omega
    have q3:8=((b.drop 8).take 8).length:=by rw[List.length_take,List.length_drop];omega
    have HGd:Hid (eW birth b=decide (z1=birth/\z2<=480)):=by unfold Hid eW;rw[hz1,hz2]
    have HLf:Hid (fS b=z3):=hz3;have z3s:z3<18446744073709551616:=by rw[<-hz3];exact kZ _ (by omega)
    have HBd:Hid (ib b=(b.drop 18).take z2):=by unfold Hid ib;rw[hz2]
    have HQ:Hid (∀ (W:World) (g o c j:Nat),0<j->j<=18->512<=c->Rd W (some ⟨g,o,none⟩) b->Rd W (some ⟨g,o+j,none⟩) (b.drop j)):=fun W g o c j hj hj2 hc hW=>by
     have h9:=Rd.drop (k:=j) (cap:=c) hW (by omega) (by omega);rw[if_neg (by omega),Option.map_some,Addr.add_lit] at h9;exact h9
    have HG1:=ah fun (W:World) (g o c:Nat) (hW:Rd W (some ⟨g,o,none⟩) b)=>iD (some ⟨g,o,none⟩) c (b.take 8) 8 q1 z1 hz1 W (hW.take 8) (by omega)
    have HG2:=ah fun (W:World) (g o c:Nat) (hc:512<=c) (hW:Rd W (some ⟨g,o,none⟩) b)=>iD (some ⟨g,o+16,none⟩) (c - 16) ((b.drop 16).take 2) 2 q2 z2 hz2 W ((HQ.o W g o c 16 (by omega) (by omega) hc hW).take 2) (by omega)
    have HG3:=ah fun (W:World) (g o c:Nat) (hc:512<=c) (hW:Rd W (some ⟨g,o,none⟩) b)=>iD (some ⟨g,o+8,none⟩) (c - 8) ((b.drop 8).take 8) 8 q3 z3 hz3 W ((HQ.o W g o c 8 (by omega) (by omega) hc hW).take 8) (by omega)
    have hlB:=ah hl;have z2s:z2<65536:=by
     rw[<-hz2];exact Nat.lt_of_lt_of_le (iB _) (by rw[<-q2];decide)
    clear HL HRd hz1 hz2 hz3 q1 q2 q3 hl;go_upto_region 9 with (go_at_call 128;(with_reducible refine HRd2.o.mono ?_);rintro e w2 ⟨g,o,c,rfl,hc1,hc2,hs⟩;have HS2:=ah hs;clear hs)
    have y3:w2.drew.cell? ⟨q,3,none⟩=some (.int .u64 (birth:Int)):=by rw[<-hbirth];exact(HS2.o.drew.right.of mM).cell 3
    have m1:(8:Int)<=c:=by omega
    have m2:(18:Int)<=c:=by omega
    have m3:(16:Int)<=c:=by omega
    have m4:¬ c=8:=by omega
    have m5:¬ c=16:=by omega
    have m6:¬ c=18:=by omega
    have HR2:=ah HS2.o.drew.rd;have HS3:=ah HS2.o.drew;clear HRd2;by_cases h1:z1=birth
    .subst h1;have hne:((z1:Int) !=(z1:Int))=false:=by simp
     by_cases h2:z2<=480
     .have h2':¬ (480:Int)<z2:=by omega
      have HGo:Hid (eW z1 b=true):=by unfold Hid;rw[HGd.o];exact decide_eq_true ⟨rfl,h2⟩
      have HS4:Hid (aV D z1 f.first (k+1)=if over=true\/z3<last then ⟨true,last,max aG z3,frs⟩ else ⟨false,z3,max aG z3,frs++[ib b]⟩):=by
       unfold Hid;rw[HSt.o];unfold en;rw[if_neg (by simp),if_neg (by rw[HGo.o];simp),HLf.o]
      clear HSt HGd HLf;refine wp_region_held_drew (S:=fun w'=>w'.cell? ⟨q,3,none⟩=some (.int .u64 (z1:Int))) (by kernel_rfl) y3 ?_;intro hS0;refine an 0 1 2 3 ?_;refine an 4 6 7 8 ?_;refine ca 9 ?_;refine bC 5 fun K hK=>?_
      go_simp;go_at_call 105;(with_reducible refine(HG1.o _ g o c HR2.o).mono ?_);rintro y wx ⟨rfl,rfl⟩
      refine hK.out _ _ y3 (fun hS0=>?_);clear hK K;refine an 10 11 12 13 ?_;refine ca 14 ?_;refine bC 15 fun K hK=>?_
      go_simp;go_at_call 105;(with_reducible refine(HG2.o _ g o c hc1 HR2.o).mono ?_);rintro y wx ⟨rfl,rfl⟩
      refine hK.out _ _ y3 (fun hS0=>?_);clear hK K;refine cw 16 17 ?_;refine wpAnyH_done (by kernel_rfl) ?_ _;go_upto_region 12 with (go_at_call 105;(with_reducible refine(HG3.o _ g o c hc1 HR2.o).mono ?_);rintro y wx ⟨rfl,rfl⟩)
      by_cases hmx:(aG:Int)<z3
      .have HM:Hid (max aG z3=z3):=by unfold Hid;exact Nat.max_eq_right (by omega)
       cases over with
       | true=>
        have HF:Hid (aV D z1 f.first (k+1)=⟨true,last,z3,frs⟩):=by unfold Hid;rw[HS4.o,if_pos (.inl rfl),HM.o]
        go_wp2_with fail;go_roundw
        .refine⟨k+1,⟨true,last,z3,frs⟩,C,cc,ks,hm,rfl,rfl,rfl,by push_cast;rfl,HF.o.symm,HKs.o,HS3.o.right⟩
        .simp[intOf];omega
       | false=>
        by_cases hz:(z3:Int)<last
        ·
         have HF:Hid (aV D z1 f.first (k+1)=⟨true,last,z3,frs⟩):=by unfold Hid;rw[HS4.o,if_pos (.inr (by omega)),HM.o]
         go_wp2_with fail;go_roundw
         .refine⟨k+1,⟨true,last,z3,frs⟩,C,cc,ks,hm,rfl,rfl,rfl,by push_cast;rfl,HF.o.symm,HKs.o,HS3.o.right⟩
         .simp[intOf];omega
        ·
         have HF:Hid (aV D z1 f.first (k+1)=⟨false,z3,z3,frs++[ib b]⟩):=by unfold Hid;rw[HS4.o,if_neg (by rintro (h9 | h9);cases h9;omega),HM.o]
         go_upto_region 16 with fail;have hs5:=HS3.o.drew;have y5:w2.drew.drew.cell? ⟨q,5,none⟩=some (.slice C ks.length cc):=(hs5.right.of mM).cell 5;have y6: ∀ o,(w2.alloc o).cell? ⟨q,5,none⟩=some (.slice C ks.length cc):=fun o=>((HS2.o.aD o).right.of mM).cell 5
         have HS5:=ah hs5;obtain⟨e18,he18⟩: ∃ e,e=18+z2:=⟨_,rfl⟩;have v2:IntKind.i64.wrap (z2:Int)=z2:=by rw[IntKind.wrap_i64];omega
         have v3:(18:Int)+(z2:Int)=(e18:Int):=by omega
         have v4:IntKind.i64.wrap (e18:Int)=e18:=by rw[IntKind.wrap_i64];omega
         have m7:(e18:Int)<=c:=by omega
         have m8:(18:Int)<=e18:=by omega
         have HZ:Hid (e18 - 18=z2):=by unfold Hid;omega
         obtain⟨L,hL⟩: ∃ L,L=ib b:=⟨_,rfl⟩;have HLl:Hid (L.length=e18 - 18):=by unfold Hid;rw[hL,HBd.o,List.length_take,List.length_drop];have:=hlB.o;omega
         have HLb:Hid (L=(b.drop 18).take z2):=by unfold Hid;rw[hL,HBd.o]
         have HL0:=ah hL;have HLs:Hid (L.length<=512):=by unfold Hid;rw[HLl.o];omega
         have hj:=(HS2.o.ab 41 #[.slice (some ⟨g,o+18,none⟩) (e18 - 18) (c - 18)]).drew.drew;have HJ:Hid (Calls Tryz.prog 61 #[.slice (some ⟨w2.heap.size,0,none⟩) 1 1] (w2.alloc (.cells #[.slice (some ⟨g,o+18,none⟩) (e18 - 18) (c - 18)] 41)).drew.drew fun e w'=> ∃ A13 c13,e = .returned (.slice A13 L.length c13)/\Sat w0 (cd [(A13,c13,L)]*(Pt q 163 (nR f (.slice C ks.length cc))*(Row 41 1 (.slice C ks.length cc) ks.length (ks.map aI)*(cd ks*(af d D*F))))) w'):=by
          refine(vt (some ⟨w2.heap.size,0,none⟩) 1 1 [(some ⟨g,o+18,none⟩,c - 18,L)] rfl w0 _ _ hj ⟨aF.je hj.at (fun j hj=>?_),fun k hk=>?_⟩ L (by simp[bK]) (by have:=HLs.o;omega) (by omega)).mono ?_
          .simp at hj;subst hj;show _=some (aI (some ⟨g,o+18,none⟩,c - 18,L));unfold aI;rw[HLl.o];rfl
          .simp at hk;subst hk;rw[HLb.o];exact(HQ.o _ g o c 18 (by omega) (by omega) hc1 hj.right.rd).take z2
          .rintro y w13 ⟨A13,c13,rfl,hs⟩;exact⟨A13,c13,rfl,(hs.ed.ay.right.ay.right).of (by rw[<-mM])⟩
         clear hs5 he18 hL hj;go_region_law (first
          | (go_simp;go_at_call 105;(with_reducible refine(HG2.o _ g o c hc1 HS5.o.rd).mono ?_);rintro y wx ⟨rfl,rfl⟩)
          | (go_simp;go_at_call 61;(with_reducible refine HJ.o.mono ?_);rintro y w13 ⟨A13,c13,rfl,hs⟩;have HS13:=ah hs;have z5:w13.cell? ⟨q,5,none⟩=some (.slice C ks.length cc):=HS13.o.ay.cell 5;have z6: ∀ o,(w13.alloc o).cell? ⟨q,5,none⟩=some (.slice C ks.length cc):=(fun o=>(HS13.o.aD o).ay.cell 5);clear hs)
          | (refine aQ rfl (.tmp 71) (.tmp 81) 87 rfl 41 i0 _ 1 24 Tryz.underlying87 hi0.o hz0.o hz1.o hz2.o rfl (by decide) (.slice C ks.length cc) ks.length (ks.map aI) rfl w0 _ (by exact(HS13.o.aD _).bp) (some ⟨w13.heap.size,0,none⟩) 1 1 [aI (A13,c13,L)] rfl (aR _ _ _) rfl (jd _) (by unfold maxLen;omega) (by omega) ?_;intro A8 c8 w8 hs;have HS8:=ah hs.bp;have c1:w8.cell? ⟨q,5,none⟩=some (.slice C ks.length cc):=hs.bp.cell 5;have f1:=hs.bp.frozen 5;clear hs))
         all_goals
          have h5:=HS8.o.set 5 (.slice A8 (ks.length+1) c8);clear c1 f1;revert h5;generalize World.setCell _ _ _=w9;intro h5;have HS9:Hid (Sat w0 (Pt q 163 (nR f (.slice A8 (ks.length+1) c8))*(Row 41 1 (.slice A8 (ks.length+1) c8) (ks.length+1) (ks.map aI++[aI (A13,c13,L)])*(cd [(A13,c13,L)]*(cd ks*(af d D*F))))) w9):=h5;clear h5;have HF2:Hid (Sat w0 (Hb q d f D (.slice A8 (ks++[(A13,c13,L)]).length c8) (ks++[(A13,c13,L)])*F) w9):=HS9.o.of (by rw[mM, <-ir,List.map_append,List.length_append];show _=_*(Row _ 1 (.slice A8 (ks.length+1) c8) (ks.length+1) (ks.map aI++[aI (A13,c13,L)])*_);ac_rfl);have HT:Hid (bK (ks++[(A13,c13,L)])=frs++[ib b]):=by unfold Hid;rw[bK,List.map_append, <-HL0.o, <-HKs.o];rfl
          have HN2:Hid ((ks++[(A13,c13,L)]).length=ks.length+1):=by unfold Hid;rw[List.length_append];rfl
          go_wp2_with fail;go_roundw
          .refine⟨k+1,⟨false,z3,z3,frs++[ib b]⟩,A8,c8,ks++[(A13,c13,L)],hm,rfl,rfl,rfl,by push_cast;rfl,HF.o.symm,HT.o,HF2.o⟩
          .simp[intOf];omega
      .have HM:Hid (max aG z3=aG):=by unfold Hid;exact Nat.max_eq_left (by omega)
       cases over with
       | true=>
        have HF:Hid (aV D z1 f.first (k+1)=⟨true,last,aG,frs⟩):=by unfold Hid;rw[HS4.o,if_pos (.inl rfl),HM.o]
        go_wp2_with fail;go_roundw
        .refine⟨k+1,⟨true,last,aG,frs⟩,C,cc,ks,hm,rfl,rfl,rfl,by push_cast;rfl,HF.o.symm,HKs.o,HS3.o.right⟩
        .simp[intOf];omega
       | false=>
        by_cases hz:(z3:Int)<last
        ·
         have HF:Hid (aV D z1 f.first (k+1)=⟨true,last,aG,frs⟩):=by unfold Hid;rw[HS4.o,if_pos (.inr (by omega)),HM.o]
         go_wp2_with fail;go_roundw
         .refine⟨k+1,⟨true,last,aG,frs⟩,C,cc,ks,hm,rfl,rfl,rfl,by push_cast;rfl,HF.o.symm,HKs.o,HS3.o.right⟩
         .simp[intOf];omega
        ·
         have HF:Hid (aV D z1 f.first (k+1)=⟨false,z3,aG,frs++[ib b]⟩):=by unfold Hid;rw[HS4.o,if_neg (by rintro (h9 | h9);cases h9;omega),HM.o]
         go_upto_region 16 with fail;have hs5:=HS3.o.drew;have y5:w2.drew.drew.cell? ⟨q,5,none⟩=some (.slice C ks.length cc):=(hs5.right.of mM).cell 5;have y6: ∀ o,(w2.alloc o).cell? ⟨q,5,none⟩=some (.slice C ks.length cc):=fun o=>((HS2.o.aD o).right.of mM).cell 5
         have HS5:=ah hs5;obtain⟨e18,he18⟩: ∃ e,e=18+z2:=⟨_,rfl⟩;have v2:IntKind.i64.wrap (z2:Int)=z2:=by rw[IntKind.wrap_i64];omega
         have v3:(18:Int)+(z2:Int)=(e18:Int):=by omega
         have v4:IntKind.i64.wrap (e18:Int)=e18:=by rw[IntKind.wrap_i64];omega
         have m7:(e18:Int)<=c:=by omega
         have m8:(18:Int)<=e18:=by omega
         have HZ:Hid (e18 - 18=z2):=by unfold Hid;omega
         obtain⟨L,hL⟩: ∃ L,L=ib b:=⟨_,rfl⟩;have HLl:Hid (L.length=e18 - 18):=by unfold Hid;rw[hL,HBd.o,List.length_take,List.length_drop];have:=hlB.o;omega
         have HLb:Hid (L=(b.drop 18).take z2):=by unfold Hid;rw[hL,HBd.o]
         have HL0:=ah hL;have HLs:Hid (L.length<=512):=by unfold Hid;rw[HLl.o];omega
         have hj:=(HS2.o.ab 41 #[.slice (some ⟨g,o+18,none⟩) (e18 - 18) (c - 18)]).drew.drew;have HJ:Hid (Calls Tryz.prog 61 #[.slice (some ⟨w2.heap.size,0,none⟩) 1 1] (w2.alloc (.cells #[.slice (some ⟨g,o+18,none⟩) (e18 - 18) (c - 18)] 41)).drew.drew fun e w'=> ∃ A13 c13,e = .returned (.slice A13 L.length c13)/\Sat w0 (cd [(A13,c13,L)]*(Pt q 163 (nR f (.slice C ks.length cc))*(Row 41 1 (.slice C ks.length cc) ks.length (ks.map aI)*(cd ks*(af d D*F))))) w'):=by
          refine(vt (some ⟨w2.heap.size,0,none⟩) 1 1 [(some ⟨g,o+18,none⟩,c - 18,L)] rfl w0 _ _ hj ⟨aF.je hj.at (fun j hj=>?_),fun k hk=>?_⟩ L (by simp[bK]) (by have:=HLs.o;omega) (by omega)).mono ?_
          .simp at hj;subst hj;show _=some (aI (some ⟨g,o+18,none⟩,c - 18,L));unfold aI;rw[HLl.o];rfl
          .simp at hk;subst hk;rw[HLb.o];exact(HQ.o _ g o c 18 (by omega) (by omega) hc1 hj.right.rd).take z2
          .rintro y w13 ⟨A13,c13,rfl,hs⟩;exact⟨A13,c13,rfl,(hs.ed.ay.right.ay.right).of (by rw[<-mM])⟩
         clear hs5 he18 hL hj;go_region_law (first
          | (go_simp;go_at_call 105;(with_reducible refine(HG2.o _ g o c hc1 HS5.o.rd).mono ?_);rintro y wx ⟨rfl,rfl⟩)
          | (go_simp;go_at_call 61;(with_reducible refine HJ.o.mono ?_);rintro y w13 ⟨A13,c13,rfl,hs⟩;have HS13:=ah hs;have z5:w13.cell? ⟨q,5,none⟩=some (.slice C ks.length cc):=HS13.o.ay.cell 5;have z6: ∀ o,(w13.alloc o).cell? ⟨q,5,none⟩=some (.slice C ks.length cc):=(fun o=>(HS13.o.aD o).ay.cell 5);clear hs)
          | (refine aQ rfl (.tmp 71) (.tmp 81) 87 rfl 41 i0 _ 1 24 Tryz.underlying87 hi0.o hz0.o hz1.o hz2.o rfl (by decide) (.slice C ks.length cc) ks.length (ks.map aI) rfl w0 _ (by exact(HS13.o.aD _).bp) (some ⟨w13.heap.size,0,none⟩) 1 1 [aI (A13,c13,L)] rfl (aR _ _ _) rfl (jd _) (by unfold maxLen;omega) (by omega) ?_;intro A8 c8 w8 hs;have HS8:=ah hs.bp;have c1:w8.cell? ⟨q,5,none⟩=some (.slice C ks.length cc):=hs.bp.cell 5;have f1:=hs.bp.frozen 5;clear hs))
         all_goals
          have h5:=HS8.o.set 5 (.slice A8 (ks.length+1) c8);clear c1 f1;revert h5;generalize World.setCell _ _ _=w9;intro h5;have HS9:Hid (Sat w0 (Pt q 163 (nR f (.slice A8 (ks.length+1) c8))*(Row 41 1 (.slice A8 (ks.length+1) c8) (ks.length+1) (ks.map aI++[aI (A13,c13,L)])*(cd [(A13,c13,L)]*(cd ks*(af d D*F))))) w9):=h5;clear h5;have HF2:Hid (Sat w0 (Hb q d f D (.slice A8 (ks++[(A13,c13,L)]).length c8) (ks++[(A13,c13,L)])*F) w9):=HS9.o.of (by rw[mM, <-ir,List.map_append,List.length_append];show _=_*(Row _ 1 (.slice A8 (ks.length+1) c8) (ks.length+1) (ks.map aI++[aI (A13,c13,L)])*_);ac_rfl);have HT:Hid (bK (ks++[(A13,c13,L)])=frs++[ib b]):=by unfold Hid;rw[bK,List.map_append, <-HL0.o, <-HKs.o];rfl
          have HN2:Hid ((ks++[(A13,c13,L)]).length=ks.length+1):=by unfold Hid;rw[List.length_append];rfl
          go_wp2_with fail;go_roundw
          .refine⟨k+1,⟨false,z3,aG,frs++[ib b]⟩,A8,c8,ks++[(A13,c13,L)],hm,rfl,rfl,rfl,by push_cast;rfl,HF.o.symm,HT.o,HF2.o⟩
          .simp[intOf];omega
     .have HF:Hid (aV D z1 f.first (k+1)=⟨true,last,aG,frs⟩):=by
       unfold Hid;rw[HSt.o];unfold en;rw[if_neg (by simp),if_pos];show eW z1 b=false;rw[HGd.o];exact decide_eq_false (fun h9=>h2 h9.2)
      have h2':(480:Int)<z2:=by omega
      refine wp_region_held_drew (S:=fun w'=>w'.cell? ⟨q,3,none⟩=some (.int .u64 (z1:Int))) (by kernel_rfl) y3 ?_;intro hS0;refine an 0 1 2 3 ?_;refine an 4 6 7 8 ?_;refine ca 9 ?_;refine bC 5 fun K hK=>?_
      go_simp;go_at_call 105;(with_reducible refine(HG1.o _ g o c HR2.o).mono ?_);rintro y wx ⟨rfl,rfl⟩
      refine hK.out _ _ y3 (fun hS0=>?_);clear hK K;refine an 10 11 12 13 ?_;refine ca 14 ?_;refine bC 15 fun K hK=>?_
      go_simp;go_at_call 105;(with_reducible refine(HG2.o _ g o c hc1 HR2.o).mono ?_);rintro y wx ⟨rfl,rfl⟩
      refine hK.out _ _ y3 (fun hS0=>?_);clear hK K;refine cw 16 17 ?_;refine wpAnyH_done (by kernel_rfl) ?_ _;go_wp2_with fail;go_roundw
      .refine⟨k+1,⟨true,last,aG,frs⟩,C,cc,ks,hm,rfl,rfl,rfl,by push_cast;rfl,HF.o.symm,HKs.o,HS3.o.right⟩
      .simp[intOf];omega
    .have HF:Hid (aV D birth f.first (k+1)=⟨true,last,aG,frs⟩):=by
      unfold Hid;rw[HSt.o];unfold en;rw[if_neg (by simp),if_pos];show eW birth b=false;rw[HGd.o];exact decide_eq_false (fun h9=>h1 h9.1)
     have hne:((z1:Int) !=(birth:Int))=true:=by simp;omega
     refine wp_region_held_drew (S:=fun w'=>w'.cell? ⟨q,3,none⟩=some (.int .u64 (birth:Int))) (by kernel_rfl) y3 ?_;intro hS0;refine an 0 1 2 3 ?_;refine an 4 6 7 8 ?_;refine ca 9 ?_;refine bC 5 fun K hK=>?_
     go_simp;go_at_call 105;(with_reducible refine(HG1.o _ g o c HR2.o).mono ?_);rintro y wx ⟨rfl,rfl⟩
     refine hK.out _ _ y3 (fun hS0=>?_);clear hK K;refine cw 10 11 ?_;refine ca 12 ?_;refine cg 13 ?_;refine cg 14 ?_;refine cg 15 ?_;refine cg 16 ?_;refine ca 17 ?_;refine wpAnyH_done (by kernel_rfl) ?_ _;go_wp2_with fail;go_roundw
     .refine⟨k+1,⟨true,last,aG,frs⟩,C,cc,ks,hm,rfl,rfl,rfl,by push_cast;rfl,HF.o.symm,HKs.o,HS3.o.right⟩
     .simp[intOf];omega
   .obtain rfl:e=24:=h9;have HF:Hid (aV D birth f.first (k+1)=⟨true,last,aG,frs⟩):=by unfold Hid;rw[HSt.o];unfold en;rw[if_pos (by simp)]
    have HRd2:Hid (Calls Tryz.prog 128 #[.pointer (some ⟨d,0,none⟩),.int .i64 (J:Int)] wr fun e w'=> ∃ v,e = .returned (.tuple #[v,.int .i64 24])/\Sat w0 (Hb q d f D (.slice C ks.length cc) ks*F) w'):=HRd.o.mono fun e w' ⟨v,he,hs⟩=>⟨v,he,hs.right.of (by unfold Hb;ac_rfl)⟩
    clear HL HRd HSt;go_upto_region 9 with (go_at_call 128;(with_reducible refine HRd2.o.mono ?_);rintro e w2 ⟨v,rfl,hs⟩;have HS2:=ah hs;clear hs)
    refine wp_region_held_drew (S:=fun _=>True) (by kernel_rfl) trivial ?_;intro hS0;refine cw 0 1 ?_;refine ca 2 ?_;refine cg 3 ?_;refine cg 4 ?_;refine cg 5 ?_;refine cg 6 ?_;refine cg 7 ?_;refine cg 8 ?_;refine cg 9 ?_;refine cg 10 ?_;refine cw 11 12 ?_;refine cg 13 ?_;refine cg 14 ?_;refine cg 15 ?_;refine cg 16 ?_;refine ca 17 ?_;refine wpAnyH_done (by kernel_rfl) ?_ _;go_wp2_with fail;go_roundw
    .refine⟨k+1,⟨true,last,aG,frs⟩,C,cc,ks,hm,rfl,rfl,rfl,by push_cast;rfl,HF.o.symm,HKs.o,HS2.o.drew⟩
    .simp[intOf];omega
  .have HK:Hid (k=f.blocks):=by unfold Hid;omega
   have hk2:¬ (k:Int)<f.blocks:=by omega
   have HF:Hid (Fl.load D f={ f with life:=(aG+1) % 18446744073709551616,aa:=frs }):=HLd.o ⟨over,last,aG,frs⟩ (by rw[<-HK.o];exact HD.o.1.symm);obtain⟨ml,hml⟩: ∃ m,m=(aG+1) % 18446744073709551616:=⟨_,rfl⟩;rw[<-hml] at HF;have hw:IntKind.u64.wrap ((aG:Int)+1)=ml:=by rw[IntKind.wrap_u64,hml];omega
   have HS7:=ah (HD.o.2.2.of mM);have c4:=HS7.o.cell 4;have f4:=HS7.o.frozen 4;clear hml;go_upto_region 19 with fail;have h5:=HS7.o.set 4 (.int .u64 (ml:Int));clear c4 f4;revert h5;generalize World.setCell _ _ _=w9;intro h5;have HS9:Hid (Sat w0 (Pt q 163 (nR { f with life:=ml,aa:=frs } (.slice C ks.length cc))*(Row 41 1 (.slice C ks.length cc) ks.length (ks.map aI)*(cd ks*(af d D*F)))) w9):=h5;clear h5;go_wp2_with fail;go_ret;refine⟨rfl,?_⟩;rw[HF.o];exact Sat.ID HKs.o HS9.o
end
section
variable {w0 w:World} {F:SP} {d s slot turn:Nat} {D:Dk} {v:Value} {ps:List (Nat × Fl)}
def rS (D:Dk) (x:Nat × Fl):Nat × Fl:=(x.1,Fl.load D x.2)
def gP (D:Dk) (ps:List (Nat × Fl)) (k:Nat):List (Nat × Fl):=(ps.take k).map (rS D)++ps.drop k
theorem sF (k:Nat) (h:k<=ps.length):(gP D ps k).length=ps.length:=by
 unfold gP;rw[List.length_append,List.length_map,List.length_take,List.length_drop];omega
theorem EC {k:Nat} (h:k<ps.length) (h2:k<(gP D ps k).length):(gP D ps k)[k]'h2=ps[k]:=by
 have hl:((ps.take k).map (rS D)).length=k:=by rw[List.length_map,List.length_take];omega
 have h3:(gP D ps k)[k]?=some ps[k]:=by
  unfold gP;rw[List.getElem?_append_right (by rw[hl];exact Nat.le_refl _),hl,Nat.sub_self,List.getElem?_drop,Nat.add_zero,List.getElem?_eq_getElem h]
 rw[List.getElem?_eq_getElem h2] at h3;exact Option.some.inj h3
theorem CS {k:Nat} (h:k<ps.length):(gP D ps k).set k (rS D ps[k])=gP D ps (k+1):=by
 have hl:((ps.take k).map (rS D)).length=k:=by rw[List.length_map,List.length_take];omega
 unfold gP;rw[List.set_append_right _ _ (by rw[hl];exact Nat.le_refl _),hl,Nat.sub_self,List.take_succ_eq_append_getElem h,List.map_append,List.append_assoc,List.drop_eq_getElem_cons h];rfl
theorem Cs {k:Nat} (h:k=ps.length):(gP D ps k).map (·.2)=(ps.map (·.2)).map (Fl.load D):=by
 subst h;unfold gP;rw[List.take_length,List.drop_length,List.append_nil,List.map_map,List.map_map];rfl
def J0 (w0:World) (F:SP) (d:Nat) (D:Dk) (e:Ending) (w':World):Prop:=
 ∃ p,e = .returned (.tuple #[oH p,.int .i64 (cJ D).2])/\Sat w0 (uF d p (cJ D).1*(af d D*F)) w'
theorem yF (h:(cC D).2=0) (h2:(cC D).1=none):cJ D=(none,30):=by
 unfold cJ;rw[h,if_neg (by simp),h2]
theorem yh {S:aK} (h:(cC D).2=0) (h2:(cC D).1=some S):cJ D=(some { S with files:=S.files.map (Fl.load D) },0):=by
 unfold cJ;rw[h,if_neg (by simp),h2]
theorem Ds (h:Sat w0 (af d D*F) w) (h2:2<=D.cells.length) (hN:D.cells.length<=65536):
 Calls Tryz.prog 53 #[.pointer (some ⟨d,0,none⟩)] w (J0 w0 F d D):=by
 have HRd:=ah (sK h h2 hN);have HN:=ah hN;unfold Kx at HRd;clear h h2 hN;rcases oE D with hc | hc
 .rw[hc] at HRd;have HNo:Hid ((cC D).1=none->cJ D=(none,30)):=yF hc;have HYes:Hid (∀ S,(cC D).1=some S->cJ D=(some { S with files:=S.files.map (Fl.load D) },0)):=fun S=>yh hc
  have HOk:Hid (∀ S,(cC D).1=some S->wm D.cells.length S):=fun S h=>xw h
  have HOff:Hid (D.off=false):=by
   unfold Hid
   cases ho:D.off with
   | false=>rfl
   | true=>unfold cC at hc;rw[if_pos ho] at hc;cases hc
  clear hc;obtain⟨o,ho⟩: ∃ o,o=(cC D).1:=⟨_,rfl⟩;rw[<-ho] at HRd HNo HYes HOk;clear ho
  cases o with
  | none=>
   have HX:Hid (cJ D=(none,30)):=HNo.o rfl;go_enter Tryz.func53, Tryz.ntmps53;go_wp2_with (go_at_call 90;(with_reducible refine HRd.o.mono ?_);rintro e w2 ⟨p,rfl,hs⟩;obtain rfl:=kh hs;unfold oH;have HS2:=ah hs;clear hs);go_ret2;exact⟨none,by rw[HX.o];rfl,by rw[HX.o];exact HS2.o⟩
  | some S=>
   have HX:Hid (cJ D=(some { S with files:=S.files.map (Fl.load D) },0)):=HYes.o S rfl;have hok:=HOk.o S rfl;have HOk2:=ah hok;have hcount:=hok.count;clear HNo HYes HOk hok;go_enter Tryz.func53, Tryz.ntmps53;go_upto_region 2 with (go_at_call 90;(with_reducible refine HRd.o.mono ?_);rintro e w2 ⟨p,rfl,hs⟩;obtain⟨s,rfl⟩:=mw hs;unfold oH;obtain⟨v,ps,hps,hs2⟩:=hs.space;have HS2:=ah hs2;have HPs:=ah hps;clear hs hs2 hps)
   have hpl:ps.length<=24:=by have:=congrArg List.length HPs.o;rw[List.length_map] at this;omega
   obtain⟨A,c,rfl,h1,h2,h3,h4,h5,h6,h7⟩:=HS2.o.me;clear h3 h4 h5 h6;go_upto_region 7 with fail;go_loopw [26] (fun iv wr=> ∃ k:Nat,k<=ps.length/\iv = .int .i64 (k:Int)/\Hid (Sat w0 (aP s d S.slot S.turn (.slice A ps.length c) (gP D ps k)*(af d D*F)) wr)) (fun iv _=>ps.length - (intOf iv).toNat)
   case atStart=>exact⟨0,by omega,rfl,by have h9:gP D ps 0=ps:=(by simp[gP]);rw[h9];first | exact HS2.o | exact HS2.o.drew⟩
   case round=>
    obtain⟨k,hk,rfl,HD⟩:=hrel;by_cases hlt:k<ps.length
    .have hkl:k<(gP D ps k).length:=by rw[sF k hk];exact hlt
     have hat:=EC (D:=D) hlt hkl;have hk2:(k:Int)<ps.length:=by omega
     have hm:k+1<=ps.length:=hlt;obtain⟨A2,c2,e9,_,_,hR2,_⟩:=HD.o.me;rw[sF k hk] at e9;injection e9 with e9 _ e8
     subst e9;subst e8;obtain⟨b,o,rfl,hcl⟩:=lp hR2 hkl;rw[hat] at hcl;have hmem:ps[k].2 ∈ S.files:=by rw[<-HPs.o];exact List.mem_map_of_mem (List.getElem_mem hlt)
     obtain⟨ok1,ok2⟩:=HOk2.o.bare _ hmem;obtain⟨ok3,ok4,ok5,ok6⟩:=HOk2.o.each _ hmem;have hsp:=HD.o.of (fE hkl);rw[hat] at hsp;have HL:=ah (Ez (q:=ps[k].1) (f:=ps[k].2) (d:=d) (D:=D) (w0:=w0) (w:=wr) (hsp.fN.ay) ok1 HOff.o ok6 HN.o ok3.2.2.2);have HSet:=ah (rD (s:=s) (d:=d) (slot:=S.slot) (turn:=S.turn) (v:= .slice (some ⟨b,o,none⟩) ps.length c) (F:=af d D*F) hkl (rS D ps[k]) (by rw[hat];rfl));rw[CS hlt] at HSet;dsimp only[rS] at HSet;clear ok1 ok2 ok3 ok4 ok5 ok6 hmem hsp hR2 hat;generalize ps[k].1=q at*
     generalize ps[k].2=f at*
     go_wp2_with (go_at_call 92;(with_reducible refine HL.o.mono ?_);rintro e w3 ⟨rfl,hs⟩;have HS3:=ah hs;clear hs);go_roundw
     .refine⟨k+1,hm,by push_cast;rfl,?_⟩;have h9:=HSet.o;exact HS3.o.of (by rw[h9];ac_rfl)
     .simp[intOf];omega
    .have HK:Hid (k=ps.length):=by unfold Hid;omega
     have hk2:¬ (k:Int)<ps.length:=by omega
     go_wp2_with fail;go_ret2;refine⟨some s,by rw[HX.o];rfl,?_⟩;rw[HX.o];exact Sat.ek (S:={ S with files:=S.files.map (Fl.load D) }) (by rw[Cs HK.o,HPs.o]) HD.o
 .have HX:Hid (cJ D=(none,21)):=by unfold Hid cJ;rw[if_pos hc]
  rw[hc,rK hc] at HRd;clear hc;go_enter Tryz.func53, Tryz.ntmps53;go_wp2_with (go_at_call 90;(with_reducible refine HRd.o.mono ?_);rintro e w2 ⟨p,rfl,hs⟩;obtain rfl:=kh hs;unfold oH;have HS2:=ah hs;clear hs);go_ret2;exact⟨none,by rw[HX.o];rfl,by rw[HX.o];exact HS2.o⟩
end
end Go.Proofs.YtmbaiglpgaoogaaGreat
