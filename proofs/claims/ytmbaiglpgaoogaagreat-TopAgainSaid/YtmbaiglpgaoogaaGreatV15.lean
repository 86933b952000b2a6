/- Joined, as they were built one by one: Ext7 Ext8 Ext9 Ext10 Ext11. -/
import Derived.Test.YtmbaiglpgaoogaaGreatV14
set_option maxHeartbeats 16000000
namespace Go.Proofs.YtmbaiglpgaoogaaGreat
open Go.RowKit
set_option linter.unusedVariables false
set_option maxRecDepth 100000
def lieV (x:Nat × Nat × Nat):List Value:=[.int .i64 (x.1:Int),.int .i64 (x.2.1:Int),.int .i64 (x.2.2:Int)]
section
variable {w0 w:World} {F:SP} {s d:Nat} {a1 a2 a3:Value} {D:Dk} {lie:List (Nat × Nat × Nat)}
theorem lies_len: ∀ l:List (Nat × Nat × Nat),(l.flatMap lieV).length=l.length*3
 | []=>rfl
 | x::l=>by rw[List.flatMap_cons,List.length_append,lies_len l,List.length_cons];show 3+_=_;omega
theorem lie_get: ∀ (l:List (Nat × Nat × Nat)) (k j:Nat) (hk:k<l.length) (hj:j<3),(l.flatMap lieV)[k*3+j]?=(lieV l[k])[j]?
 | x::l,0,j,hk,hj=>by
  rw[List.flatMap_cons,List.getElem?_append_left (by show 0*3+j<3;omega)];simp
 | x::l,k+1,j,hk,hj=>by
  rw[List.flatMap_cons,List.getElem?_append_right (by show 3<=_;omega)];show (l.flatMap lieV)[(k+1)*3+j - 3]?=_;rw[show (k+1)*3+j - 3=k*3+j by omega];exact lie_get l k j (by simpa using hk) hj
theorem lie_at {A:Option Addr} (h:RdV w A (lie.flatMap lieV)) {k:Nat} (hk:k<lie.length): ∃ b o,A=some ⟨b,o,none⟩/\w.cell? ⟨b,o+k*3,none⟩=some (.int .i64 (lie[k].1:Int))/\w.cell? ⟨b,o+k*3+1,none⟩=some (.int .i64 (lie[k].2.1:Int))/\w.cell? ⟨b,o+k*3+2,none⟩=some (.int .i64 (lie[k].2.2:Int)):=by
 have hl:=lies_len lie;obtain⟨b,o,e,hc⟩:=h (by intro e;have h9:lie.length*3=0:=(by rw[<-hl,e];rfl);omega);have key: ∀ j,j<3->w.cell? ⟨b,o+k*3+j,none⟩=(lieV lie[k])[j]?:=fun j hj=>by
  have hij:k*3+j<(lie.flatMap lieV).length:=by rw[hl];omega
  have:=hc (k*3+j) hij;rw[Nat.add_assoc,this, <-List.getElem?_eq_getElem hij,lie_get lie k j hk hj]
 exact⟨b,o,e,key 0 (by omega),key 1 (by omega),key 2 (by omega)⟩
theorem place_any (A:Option Addr) (c:Nat) (bl:Int) (h:Sat w0 (Pt s 153 #[ptrV d,a1,a2,a3]*(Disk d D*F)) w) (hr:RdV w A (lie.flatMap lieV)) (hl:lie.length<=1000000) (hb: ∀ x ∈ lie,x.2.1<=65536/\x.2.2<=65536) (hbl: -9223372036854775808<=bl/\bl<=9223372036854775807) (hn:D.cells.length<=65536):
  Calls Tryz.prog 99 #[.pointer (some ⟨s,0,none⟩),.slice A lie.length c,.int .i64 bl] w fun e w'=>e = .returned (.tuple #[.int .i64 ((placeX D.cells.length bl 2 (lie.map (·.2))).1:Int),.bool (placeX D.cells.length bl 2 (lie.map (·.2))).2])/\Chg No w w':=by
 have HB:=ah fun (W:World) (k:Chg No w W)=>blocks_any d D w0 W _ (h.up2.new k)
 have y0:w.cell? ⟨s,0,none⟩=some (.pointer (some ⟨d,0,none⟩)):=h.cell 0;have HY:Hid (∀ W,Chg No w W->W.cell? ⟨s,0,none⟩=some (.pointer (some ⟨d,0,none⟩))):=fun W k=>k.cell y0 id
 have HR:=ah hr;have HBd:=ah hb;clear h hr hb y0;go_enter Tryz.func99, Tryz.ntmps99;go_wp2_with fail;go_loopw [8,10,13] (fun fv _ iv wr=> ∃ (k f:Nat),k<=lie.length/\f<=131072/\fv = .int .i64 (f:Int)/\iv = .int .i64 (k:Int)/\Hid (Chg No w wr/\placeX D.cells.length bl 2 (lie.map (·.2))=placeX D.cells.length bl f ((lie.drop k).map (·.2)))) (fun _ _ iv _=>lie.length - (intOf iv).toNat)
 case atStart=>exact⟨0,2,by omega,by omega,rfl,rfl,Chg.refl _ _,rfl⟩
 case round=>
  obtain⟨k,f,hk,hf,rfl,rfl,HD⟩:=hrel;by_cases hlt:k<lie.length
  .obtain⟨b,o,rfl,z0,z1,z2⟩:=lie_at (HR.o.new HD.o.1) hlt;have hk2:(k:Int)<lie.length:=by omega
   obtain⟨hx1,hx2⟩:=HBd.o lie[k] (List.getElem_mem hlt);have hdr:lie.drop k=lie[k]::lie.drop (k+1):=List.drop_eq_getElem_cons hlt;have HP:Hid (placeX D.cells.length bl 2 (lie.map (·.2))=if bl<=(lie[k].2.1:Int) - f then (f,true) else placeX D.cells.length bl (lie[k].2.1+lie[k].2.2) ((lie.drop (k+1)).map (·.2))):=by
    unfold Hid;rw[HD.o.2,hdr,List.map_cons]
    conv=>lhs;unfold placeX
   have HC:=ah HD.o.1;clear hdr HD;generalize lie[k].1=x0 at*
   generalize lie[k].2.1=x1 at*
   generalize lie[k].2.2=x2 at*
   have hw:IntKind.i64.wrap ((x1:Int) - (f:Int))=(x1:Int) - f:=by rw[IntKind.wrap_i64];omega
   by_cases hfit:bl<=(x1:Int) - f
   .go_wp2_with fail;go_ret2;rw[HP.o,if_pos hfit];exact⟨rfl,HC.o.alloc _⟩
   .have hw2:IntKind.i64.wrap ((x1:Int)+(x2:Int))=((x1+x2:Nat):Int):=by rw[IntKind.wrap_i64];omega
    have hfit2:¬ bl<=(x1:Int) - f:=hfit;have HP2:Hid (placeX D.cells.length bl 2 (lie.map (·.2))=placeX D.cells.length bl (x1+x2) ((lie.drop (k+1)).map (·.2))):=by unfold Hid;rw[HP.o,if_neg hfit]
    clear HP hfit;go_wp2_with fail;go_roundw
    .exact⟨k+1,x1+x2,by omega,by omega,by push_cast;rfl,by push_cast;rfl,HC.o.alloc _,HP2.o⟩
    .simp[intOf];omega
  .obtain rfl:k=lie.length:=by omega
   have hk2:¬ ((lie.length:Nat):Int)<lie.length:=by omega
   have HP:Hid (placeX D.cells.length bl 2 (lie.map (·.2))=(f,decide (bl<=(D.cells.length:Int) - f))):=by
    unfold Hid;rw[HD.o.2,List.drop_length];rfl
   have y0:=HY.o wr HD.o.1;have HB2:=ah (HB.o wr HD.o.1);have hw:IntKind.i64.wrap ((D.cells.length:Int) - (f:Int))=(D.cells.length:Int) - f:=by rw[IntKind.wrap_i64];omega
   have HC:=ah HD.o.1;go_wp2_with (go_at_call 51;(with_reducible refine HB2.o.mono ?_);rintro x wx ⟨rfl,rfl⟩);go_ret2;rw[HP.o];exact⟨rfl,HC.o⟩
end
section
variable {w0 w:World} {F:SP} {d:Nat} {gs:List (Nat × Fl)} {D:Dk}
def lieB (n:Nat) (f:Fl):Bool:=decide (2<=f.first/\1<=f.blocks/\(f.blocks:Int)<=(n:Int) - f.first)
theorem liesH_all (n:Nat) (gs:List (Nat × Fl)):liesH n (gs.map fun x=>x.2.hd)=gs.all fun x=>lieB n x.2:=by
 unfold liesH;rw[List.all_map];rfl
theorem lies_any (A:Option Addr) (c:Nat) (h:Sat w0 (FlsP gs*(Disk d D*F)) w) (hA: ∀ W,Sat w0 (FlsP gs*(Disk d D*F)) W->RdV W A (gs.map fun x=>ptrV x.1)) (hn:gs.length<=1000) (hb: ∀ x ∈ gs,x.2.first<4294967296/\x.2.blocks<4294967296) (hN:D.cells.length<=65536):
  Calls Tryz.prog 130 #[.pointer (some ⟨d,0,none⟩),.slice A gs.length c] w fun e w'=>e = .returned (.bool (liesH D.cells.length (gs.map fun x=>x.2.hd)))/\Sat w0 (FlsP gs*(Disk d D*F)) w':=by
 rw[liesH_all];obtain⟨N,hNN⟩: ∃ N,N=D.cells.length:=⟨_,rfl⟩;have HB:Hid (∀ W X,Sat w0 (Disk d D*X) W->Calls Tryz.prog 51 #[.pointer (some ⟨d,0,none⟩)] W fun e w'=>e = .returned (.int .i64 (N:Int))/\W=w'):=fun W X k=>by rw[hNN];exact blocks_any d D w0 W X k
 rw[<-hNN] at hN ⊢;have HS:=ah h;have HA:=ah hA;have HBd:=ah hb;clear h hA hb hNN;go_enter Tryz.func130, Tryz.ntmps130;go_wp2_with fail;go_loopw [6,9] (fun _ iv wr=> ∃ k:Nat,k<=gs.length/\iv = .int .i64 (k:Int)/\Hid (Sat w0 (FlsP gs*(Disk d D*F)) wr/\ ∀ j (hj:j<k) (hl:j<gs.length),lieB N gs[j].2=true)) (fun _ iv _=>gs.length - (intOf iv).toNat)
 case atStart=>exact⟨0,by omega,rfl,HS.o,fun j hj=>by omega⟩
 case round=>
  obtain⟨k,hk,rfl,HD⟩:=hrel;by_cases hlt:k<gs.length
  .obtain⟨b,o,rfl,hc⟩:=ptr_get (HA.o wr HD.o.1) hlt;have hk2:(k:Int)<gs.length:=by omega
   obtain⟨hx1,hx2⟩:=HBd.o gs[k] (List.getElem_mem hlt);obtain⟨v5,ks,hks,hfl⟩:=Sat.fl (p:=gs[k].1) (f:=gs[k].2) (HD.o.1.of (show _=FlP gs[k].1 gs[k].2*(FlsP (gs.eraseIdx k)*(Disk d D*F)) by rw[fls_at hlt];ac_rfl));have y1:wr.drew.cell? ⟨gs[k].1,1,none⟩=some (.int .i64 (gs[k].2.first:Int)):=hfl.drew.cell 1;have y2:wr.drew.cell? ⟨gs[k].1,2,none⟩=some (.int .i64 (gs[k].2.blocks:Int)):=hfl.drew.cell 2;have HNo:Hid (lieB N gs[k].2=false->(gs.all fun x=>lieB N x.2)=false):=fun h9=>by
    rw[List.all_eq_false];exact⟨gs[k],List.getElem_mem hlt,by rw[h9];simp⟩
   have HL:Hid (lieB N gs[k].2=decide (2<=gs[k].2.first/\1<=gs[k].2.blocks/\(gs[k].2.blocks:Int)<=(N:Int) - gs[k].2.first)):=rfl;have HY:Hid (∀ j (hj:j<k+1) (hl:j<gs.length),lieB N gs[k].2=true->lieB N gs[j].2=true):=fun j hj hl h9=>by
    by_cases ej:j=k
    .subst ej;exact h9
    .exact HD.o.2 j (by omega) hl
   have HBl:=ah (HB.o wr.drew _ (HD.o.1.drew.up2));clear hks hfl;generalize lieB N gs[k].2=LB at*
   generalize gs[k].2.first=m1 at*
   generalize gs[k].2.blocks=m2 at*
   generalize gs[k].1=q at*
   have hw:IntKind.i64.wrap ((N:Int) - (m1:Int))=(N:Int) - m1:=by rw[IntKind.wrap_i64];omega
   go_upto_region 4 with fail;by_cases h1:(m1:Int)<2
   .have HF:Hid (LB=false):=by unfold Hid;rw[HL.o];exact decide_eq_false (by omega)
    refine wp_region_held_drew (S:=fun w'=>w'.cell? ⟨q,1,none⟩=some (.int .i64 (m1:Int))/\w'.cell? ⟨q,2,none⟩=some (.int .i64 (m2:Int))) (by kernel_rfl) ⟨y1,y2⟩ ?_;intro hS0;refine rtk 0 ?_;refine rtk 1 ?_;refine rtk 2 ?_;refine rtk 3 ?_;refine rtk 4 ?_;refine rtk 5 ?_;refine rtk 6 ?_;refine rsk 7 ?_;refine rsk 8 ?_;refine rsk 9 ?_;refine rsk 10 ?_;refine rsk 11 ?_;refine rsk 12 ?_;refine rtk 13 ?_;refine rtk 14 ?_;refine rsk 15 ?_;refine rsk 16 ?_;refine rsk 17 ?_;refine rsk 18 ?_;refine rsk 19 ?_;refine rsk 20 ?_;refine rsk 21 ?_;refine rsk 22 ?_;refine rsk 23 ?_;refine rsk 24 ?_;refine rsk 25 ?_;refine rsk 26 ?_;refine rsk 27 ?_;refine rsk 28 ?_;refine rtk 29 ?_;refine wpAnyH_done (by kernel_rfl) ?_ _;go_wp2_with fail;go_ret;rw[HNo.o HF.o];exact⟨rfl,HD.o.1.drew⟩
   .by_cases h2:(m2:Int)<1
    .have HF:Hid (LB=false):=by unfold Hid;rw[HL.o];exact decide_eq_false (by omega)
     refine wp_region_held_drew (S:=fun w'=>w'.cell? ⟨q,1,none⟩=some (.int .i64 (m1:Int))/\w'.cell? ⟨q,2,none⟩=some (.int .i64 (m2:Int))) (by kernel_rfl) ⟨y1,y2⟩ ?_;intro hS0;refine rtk 0 ?_;refine rtk 1 ?_;refine rtk 2 ?_;refine rtk 3 ?_;refine rtk 4 ?_;refine rtk 5 ?_;refine rtk 6 ?_;refine rtk 7 ?_;refine rtk 8 ?_;refine rtk 9 ?_;refine rtk 10 ?_;refine rtk 11 ?_;refine rtk 12 ?_;refine rtk 13 ?_;refine rtk 14 ?_;refine rsk 15 ?_;refine rsk 16 ?_;refine rsk 17 ?_;refine rsk 18 ?_;refine rsk 19 ?_;refine rsk 20 ?_;refine rsk 21 ?_;refine rsk 22 ?_;refine rsk 23 ?_;refine rsk 24 ?_;refine rsk 25 ?_;refine rsk 26 ?_;refine rsk 27 ?_;refine rsk 28 ?_;refine rtk 29 ?_;refine wpAnyH_done (by kernel_rfl) ?_ _;go_wp2_with fail;go_ret;rw[HNo.o HF.o];exact⟨rfl,HD.o.1.drew⟩
    .by_cases h3:(N:Int) - m1<m2
     .have HF:Hid (LB=false):=by unfold Hid;rw[HL.o];exact decide_eq_false (by omega)
      refine wp_region_held_drew (S:=fun w'=>w'.cell? ⟨q,1,none⟩=some (.int .i64 (m1:Int))/\w'.cell? ⟨q,2,none⟩=some (.int .i64 (m2:Int))) (by kernel_rfl) ⟨y1,y2⟩ ?_;intro hS0;refine rtk 0 ?_;refine rtk 1 ?_;refine rtk 2 ?_;refine rtk 3 ?_;refine rtk 4 ?_;refine rtk 5 ?_;refine rtk 6 ?_;refine rtk 7 ?_;refine rtk 8 ?_;refine rtk 9 ?_;refine rtk 10 ?_;refine rtk 11 ?_;refine rtk 12 ?_;refine rtk 13 ?_;refine rtk 14 ?_;refine rtk 15 ?_;refine rtk 16 ?_;refine rtk 17 ?_;refine rtk 18 ?_;refine rtk 19 ?_;refine rtk 20 ?_;refine rtk 22 ?_;refine rtk 23 ?_;refine rtk 24 ?_;refine rtk 25 ?_;refine rtk 26 ?_;refine rck 21 fun K hK=>?_
      go_simp;go_at_call 51;(with_reducible refine HBl.o.mono ?_);rintro y wx ⟨rfl,rfl⟩
      refine hK.out _ _ ⟨y1,y2⟩ (fun hS0=>?_);clear hK K;refine rtk 27 ?_;refine rtk 28 ?_;refine rtk 29 ?_;refine wpAnyH_done (by kernel_rfl) ?_ _;go_wp2_with fail;go_ret;rw[HNo.o HF.o];exact⟨rfl,HD.o.1.drew⟩
     .have HF:Hid (LB=true):=by unfold Hid;rw[HL.o];exact decide_eq_true (by omega)
      refine wp_region_held_drew (S:=fun w'=>w'.cell? ⟨q,1,none⟩=some (.int .i64 (m1:Int))/\w'.cell? ⟨q,2,none⟩=some (.int .i64 (m2:Int))) (by kernel_rfl) ⟨y1,y2⟩ ?_;intro hS0;refine rtk 0 ?_;refine rtk 1 ?_;refine rtk 2 ?_;refine rtk 3 ?_;refine rtk 4 ?_;refine rtk 5 ?_;refine rtk 6 ?_;refine rtk 7 ?_;refine rtk 8 ?_;refine rtk 9 ?_;refine rtk 10 ?_;refine rtk 11 ?_;refine rtk 12 ?_;refine rtk 13 ?_;refine rtk 14 ?_;refine rtk 15 ?_;refine rtk 16 ?_;refine rtk 17 ?_;refine rtk 18 ?_;refine rtk 19 ?_;refine rtk 20 ?_;refine rtk 22 ?_;refine rtk 23 ?_;refine rtk 24 ?_;refine rtk 25 ?_;refine rtk 26 ?_;refine rck 21 fun K hK=>?_
      go_simp;go_at_call 51;(with_reducible refine HBl.o.mono ?_);rintro y wx ⟨rfl,rfl⟩
      refine hK.out _ _ ⟨y1,y2⟩ (fun hS0=>?_);clear hK K;refine rtk 27 ?_;refine rtk 28 ?_;refine rtk 29 ?_;refine wpAnyH_done (by kernel_rfl) ?_ _;go_wp2_with fail;go_roundw
      .exact⟨k+1,by omega,by push_cast;rfl,HD.o.1.drew,fun j hj hl=>HY.o j hj hl HF.o⟩
      .simp[intOf];omega
  .have hk2:¬ (k:Int)<gs.length:=by omega
   have HT:Hid ((gs.all fun x=>lieB N x.2)=true):=by
    unfold Hid;rw[List.all_eq_true];intro x hx;obtain⟨j,hj,rfl⟩:=List.getElem_of_mem hx;exact HD.o.2 j (by omega) hj
   go_wp2_with fail;go_ret;rw[HT.o];exact⟨rfl,HD.o.1⟩
end
section
variable {w0 w:World} {F:SP}
theorem oget_n (A:Option Addr) (c:Nat) (l:List UInt8) (n:Nat) (hn:n=l.length) (z:Nat) (hz:getN l=z) (w:World) (h:Rd w A l) (hl:n<=8):
  Calls Tryz.prog 105 #[.slice A n c] w fun e w'=>e = .returned (.int .u64 (z:Int))/\w=w':=by
 subst hn;subst hz;exact(oget_any A c l w h hl).mono fun e w' ⟨h1,h2⟩=>⟨h1,h2.symm⟩
def UnsX (w0:World) (F:SP) (o:Option (Nat × List Hd)) (e:Ending) (w':World):Prop:=
 (o=none/\e = .returned (.tuple #[.int .u64 0,.slice none 0 0,.bool false])/\Sat w0 F w')\/
 ∃ turn hs V gs,o=some (turn,hs)/\e = .returned (.tuple #[.int .u64 (turn:Int),V,.bool true])/\gs.map (fun x=>x.2)=hs.map Hd.fl/\Sat w0 (Row 155 1 V gs.length (gs.map fun x=>ptrV x.1)*(FlsP gs*F)) w'
theorem ptrT:(Tryz.prog.info? 155).map (fun i=>(i.zero,i.size,i.bytes))=some (some (.pointer none),1,8):=by kernel_rfl
theorem rowsH_snoc: ∀ (n:Nat) (r:List UInt8),rowsH (n+1) r=rowsH n r++[hdOf (r.drop (20*n))]
 | 0,r=>by simp[rowsH]
 | n+1,r=>by
  have ih:=rowsH_snoc n (r.drop 20);rw[List.drop_drop] at ih;show hdOf r::rowsH (n+1) (r.drop 20)=(hdOf r::rowsH n (r.drop 20))++[hdOf (r.drop (20*(n+1)))];rw[ih,List.cons_append,show 20*(n+1)=20+20*n by omega]
theorem hdOf_small (r:List UInt8):HdOk (hdOf r):=by
 have h4: ∀ l:List UInt8,l.length<=4->getN l<4294967296:=fun l hl=>Nat.lt_of_lt_of_le (getN_lt l) (Nat.le_trans (Nat.pow_le_pow_right (by decide) hl) (by decide))
 exact⟨h4 _ (by simp;omega),h4 _ (by simp;omega),h4 _ (by simp;omega),getN_lt64 _ (by simp;omega)⟩
theorem unseal_any (A:Option Addr) (c:Nat) (b:List UInt8) (h:Sat w0 F w) (hb: ∀ W,Sat w0 F W->Rd W A b) (hl:b.length=512) (hc:512<=c) (hm:c<=9223372036854775807):
  Calls Tryz.prog 129 #[.slice A 512 c] w (UnsX w0 F (unsealB b)):=by
 obtain⟨i0,hi0',hz0',hz1',hz2'⟩:=info_parts ptrT;have hi0:=ah hi0';have hz0:=ah hz0';have hz1:=ah hz1';have hz2:=ah hz2';have HR:=ah hb;have HS:=ah h;have HL:=ah hl;have hr0:=hb w h;obtain⟨g,o,rfl,hcell⟩:=hr0 (by intro e;have:=congrArg List.length e;simp[hl] at this);have hc1:(4:Int)<=c:=by omega
 have hc2:(12:Int)<=c:=by omega
 have hc3:(512:Int)<=c:=by omega
 have hc13:¬ c=13:=by omega
 have hc4:¬ c=4:=by omega
 obtain⟨B,hB⟩: ∃ B,decide (b.take 4=markX)=B:=⟨_,rfl⟩;obtain⟨SA,hSA⟩: ∃ SA,SA=ByteArray.mk (b.take 4).toArray:=⟨_,rfl⟩;have hST:SA.toList=b.take 4:=by rw[hSA];simp
 have hcmp:(SA.toList==[84,68,88,49])=B:=by
  rw[hST, <-hB];show (b.take 4==markX)=_;by_cases e:b.take 4=markX
  .rw[e];simp
  .rw[decide_eq_false e];exact beq_eq_false_iff_ne.2 e
 clear hST;have ht4:(b.take 4).length=4:=by rw[List.length_take];omega
 have s1:(convert 41 9 (.slice (some ⟨g,o,none⟩) 4 c)).run Tryz.prog w = .ok (.string SA) w:=by
  have h9:=Rd.str (P:= Tryz.prog) (Rd.take (hb w h) 4) 41 9 5 Tryz.underlying41 Tryz.underlying5 Tryz.underlying9 c;rw[ht4] at h9;rw[hSA];exact h9
 obtain⟨x,hx⟩: ∃ x,x=b.getD 12 0:=⟨_,rfl⟩;have z12:w.cell? ⟨g,o+12,none⟩=some (.int .u8 (x.toNat:Int)):=by
  have h9:=hcell 12 (by simp[hl]);rw[h9,hx,List.getElem_map,List.getD_eq_getElem?_getD,List.getElem?_eq_getElem (by omega)];rfl
 have hx8:=x.toNat_lt;have hwx:IntKind.i64.wrap (x.toNat:Int)=x.toNat:=by rw[IntKind.wrap_i64];omega
 have HX:=ah hx;have HB:=ah hB;clear h hb hl hi0' hz0' hz1' hz2' hcell hSA ht4 hx hB;go_enter Tryz.func129, Tryz.ntmps129
 cases B
 .have HU:Hid (unsealB b=none):=by unfold Hid unsealB;rw[if_neg];rintro ⟨h9,_⟩;exact of_decide_eq_false HB.o h9
  go_wp2_with fail;go_ret3
  exact .inl ⟨HU.o,rfl,HS.o⟩
 .by_cases hx24:x.toNat<=24
  .have hx25:¬ (24:Int)<x.toNat:=by omega
   obtain⟨turn,htu⟩: ∃ t,getN ((b.drop 4).take 8)=t:=⟨_,rfl⟩;obtain⟨n,hn⟩: ∃ n,n=x.toNat:=⟨_,rfl⟩;have HU:Hid (unsealB b=some (turn,rowsH n (b.drop 13))):=by unfold Hid unsealB;rw[if_pos ⟨of_decide_eq_true HB.o,by rw[<-HX.o];exact hx24⟩,htu, <-HX.o,hn]
   have l8:8=((b.drop 4).take 8).length:=by rw[List.length_take,List.length_drop,HL.o];rfl
   have HT:Hid (Rd w (some ⟨g,o+4,none⟩) ((b.drop 4).take 8)):=by
    have h9:=Rd.drop (k:=4) (cap:=c) hr0 (by rw[HL.o];omega) (by rw[HL.o];omega);rw[if_neg hc4,Option.map_some,Addr.add_lit] at h9;exact h9.take 8
   have HG:=ah (oget_n (some ⟨g,o+4,none⟩) (c - 4) ((b.drop 4).take 8) 8 l8 turn htu w HT.o (by omega));rw[<-hn] at z12 hwx hx25;have hn24:n<=24:=by omega
   clear htu l8 hr0 hn hx24;go_upto_region 6 with (go_at_call 105;(with_reducible refine HG.o.mono ?_);rintro y wx ⟨rfl,rfl⟩)
   go_loopw [3,5,6,26] (fun fv rv _ iv wr=> ∃ (k:Nat) (C:Option Addr) (cc:Nat) (gs:List (Nat × Fl)),k<=n/\fv = .slice C k cc/\rv = .slice (some ⟨g,o+13+20*k,none⟩) (499 - 20*k) (c - 13 - 20*k)/\iv = .int .u8 (k:Int)/\Hid (gs.length=k/\gs.map (fun x=>x.2)=(rowsH k (b.drop 13)).map Hd.fl/\Sat w0 (Row 155 1 (.slice C k cc) k (gs.map fun x=>ptrV x.1)*(FlsP gs*F)) wr)) (fun _ _ _ iv _=>n - (intOf iv).toNat)
   case atStart=>exact⟨0,none,0,[],by omega,rfl,rfl,rfl,rfl,rfl,(HS.o.of (emp_star F).symm).row_nil _ 1⟩
   case round=>
    obtain⟨k,C,cc,gs,hk,rfl,rfl,rfl,HD⟩:=hrel;by_cases hlt:k<n
    .have hk2:(k:Int)<n:=by omega
     obtain⟨ro,hro⟩: ∃ r,r=o+13+20*k:=⟨_,rfl⟩;obtain⟨rl,hrl⟩: ∃ r,r=499 - 20*k:=⟨_,rfl⟩;obtain⟨rc,hrc⟩: ∃ r,r=c - 13 - 20*k:=⟨_,rfl⟩;obtain⟨q,hq⟩: ∃ q,q=(b.drop 13).drop (20*k):=⟨_,rfl⟩;have hql:q.length=rl:=by rw[hq,List.length_drop,List.length_drop,HL.o];omega
     have m1:(20:Int)<=rl:=by omega
     have m2:(20:Int)<=rc:=by omega
     have m3:(12:Int)<=rc:=by omega
     have m4:(8:Int)<=rc:=by omega
     have m5:(4:Int)<=rc:=by omega
     have m7:(rl:Int)<=rc:=by omega
     have m6:¬ rc=20:=by omega
     have m8:¬ rc=4:=by omega
     have m9:¬ rc=8:=by omega
     have m10:¬ rc=12:=by omega
     have HQ:Hid (∀ W,Sat w0 F W->Rd W (some ⟨g,ro,none⟩) q):=fun W hW=>by
      have h9:=Rd.drop (k:=13+20*k) (cap:=c) (HR.o W hW) (by rw[HL.o];omega) (by rw[HL.o];omega);rw[if_neg (by omega),Option.map_some,Addr.add_lit] at h9;rw[hq,List.drop_drop,hro,Nat.add_assoc];exact h9
     have HQ4:Hid (∀ W j,j<=12->0<j->Sat w0 F W->Rd W (some ⟨g,ro+j,none⟩) (q.drop j)):=fun W j hj hj0 hW=>by
      have h9:=Rd.drop (k:=j) (cap:=rc) (HQ.o W hW) (by omega) (by omega);rw[if_neg (by omega),Option.map_some,Addr.add_lit] at h9;exact h9
     obtain⟨n1,hn1⟩: ∃ z,getN (q.take 4)=z:=⟨_,rfl⟩;obtain⟨n2,hn2⟩: ∃ z,getN ((q.drop 4).take 4)=z:=⟨_,rfl⟩;obtain⟨n3,hn3⟩: ∃ z,getN ((q.drop 8).take 4)=z:=⟨_,rfl⟩;obtain⟨n4,hn4⟩: ∃ z,getN ((q.drop 12).take 8)=z:=⟨_,rfl⟩;have hok:=hdOf_small q;have HH:Hid (hdOf q=⟨n1,n2,n3,n4⟩):=by unfold Hid hdOf;rw[hn1,hn2,hn3,hn4]
     rw[HH.o] at hok;have b1:n1<4294967296:=hok.1;have b2:n2<4294967296:=hok.2.1;have b3:n3<4294967296:=hok.2.2.1;have v1:IntKind.i64.wrap (n1:Int)=n1:=by rw[IntKind.wrap_i64];omega
     have v2:IntKind.i64.wrap (n2:Int)=n2:=by rw[IntKind.wrap_i64];omega
     have v3:IntKind.i64.wrap (n3:Int)=n3:=by rw[IntKind.wrap_i64];omega
     have q4:4=(q.take 4).length:=by rw[List.length_take];omega
     have q44:4=((q.drop 4).take 4).length:=by rw[List.length_take,List.length_drop];omega
     have q84:4=((q.drop 8).take 4).length:=by rw[List.length_take,List.length_drop];omega
     have q12:8=((q.drop 12).take 8).length:=by rw[List.length_take,List.length_drop];omega
     have HG1:=ah fun (W:World) (hW:Sat w0 F W)=>oget_n (some ⟨g,ro,none⟩) rc (q.take 4) 4 q4 n1 hn1 W ((HQ.o W hW).take 4) (by omega)
     have HG2:=ah fun (W:World) (hW:Sat w0 F W)=>oget_n (some ⟨g,ro+4,none⟩) (rc - 4) ((q.drop 4).take 4) 4 q44 n2 hn2 W ((HQ4.o W 4 (by omega) (by omega) hW).take 4) (by omega)
     have HG3:=ah fun (W:World) (hW:Sat w0 F W)=>oget_n (some ⟨g,ro+8,none⟩) (rc - 8) ((q.drop 8).take 4) 4 q84 n3 hn3 W ((HQ4.o W 8 (by omega) (by omega) hW).take 4) (by omega)
     have HG4:=ah fun (W:World) (hW:Sat w0 F W)=>oget_n (some ⟨g,ro+12,none⟩) (rc - 12) ((q.drop 12).take 8) 8 q12 n4 hn4 W ((HQ4.o W 12 (by omega) (by omega) hW).take 8) (by omega)
     have HRw:Hid (rowsH (k+1) (b.drop 13)=rowsH k (b.drop 13)++[⟨n1,n2,n3,n4⟩]):=by unfold Hid;rw[rowsH_snoc, <-hq,HH.o]
     have HN1:Hid (ro+20=o+13+20*(k+1)/\rl - 20=499 - 20*(k+1)/\rc - 20=c - 13 - 20*(k+1)):=by unfold Hid;omega
     have hk8:IntKind.u8.wrap ((k:Int)+1)=(k:Int)+1:=by rw[IntKind.wrap_u8];omega
     have hkn:k+1<=n:=hlt;have HS7:=ah HD.o.2.2.drew;obtain⟨B14,hB14⟩: ∃ B,wr.heap.size=B:=⟨_,rfl⟩;have HBd:Hid (wr.drew.heap.size=B14):=hB14;have HBe:Hid (wr.heap.size=B14):=hB14;clear hB14;rw[<-hro, <-hrl, <-hrc];clear hro hrl hrc hq hql hn1 hn2 hn3 hn4 hok b1 b2 b3 q4 q44 q84 q12 hlt;go_upto_region 7 with fail;refine wp_region_held_drew (S:=fun _=>True) (by kernel_rfl) trivial ?_;intro hS0;refine rtk 0 ?_;refine rtk 1 ?_;refine rtk 4 ?_;refine rtk 5 ?_;refine rtk 8 ?_;refine rtk 9 ?_;refine rck 2 fun K hK=>?_
     go_simp;go_at_call 105;(with_reducible refine(HG1.o _ HS7.o.right.right).mono ?_);rintro y wx ⟨rfl,rfl⟩
     refine hK.out _ _ trivial (fun hS0=>?_);clear hK K;refine rtk 3 ?_;refine rck 6 fun K hK=>?_
     go_simp;go_at_call 105;(with_reducible refine(HG2.o _ HS7.o.right.right).mono ?_);rintro y wx ⟨rfl,rfl⟩
     refine hK.out _ _ trivial (fun hS0=>?_);clear hK K;refine rtk 7 ?_;refine rck 10 fun K hK=>?_
     go_simp;go_at_call 105;(with_reducible refine(HG3.o _ HS7.o.right.right).mono ?_);rintro y wx ⟨rfl,rfl⟩
     refine hK.out _ _ trivial (fun hS0=>?_);clear hK K;refine rtk 11 ?_;refine rtk 12 ?_;refine rtk 13 ?_;refine rck 14 fun K hK=>?_
     go_simp
     (try rw[HBd.o]);(try rw[HBe.o])
     refine hK.out _ _ trivial (fun hS0=>?_);clear hK K;refine rtk 15 ?_;refine wpAnyH_done (by kernel_rfl) ?_ _;go_upto_region 8 with fail;have hs:=HD.o.2.2.allocPt 163 #[.int .i64 (n1:Int),.int .i64 (n2:Int),.int .i64 (n3:Int),.int .u64 0,.int .u64 0,.slice none 0 0];rw[HBe.o] at hs;revert hs;generalize World.alloc wr _=w14;intro hs;have hs:Sat w0 (Pt B14 163 (flC ⟨n1,n2,n3,0,0,[]⟩ (.slice none 0 0))*(Row 155 1 (.slice C k cc) k (gs.map fun x=>ptrV x.1)*(FlsP gs*F))) w14:=hs;replace hs:=hs.drew;revert hs;generalize World.drew w14=w8;intro hs;have HS8:=ah hs;clear hs;have c3:=HS8.o.cell 3;have f3:=HS8.o.frozen 3;go_upto_region 9 with (go_at_call 105;(with_reducible refine(HG4.o _ HS8.o.right.right.right).mono ?_);rintro y wx ⟨rfl,rfl⟩)
     have hs:=HS8.o.set 3 (.int .u64 (n4:Int));clear c3 f3;revert hs;generalize World.setCell _ _ _=w15;intro hs;have HS15:Hid (Sat w0 (Pt B14 163 (flC ⟨n1,n2,n3,n4,0,[]⟩ (.slice none 0 0))*(Row 155 1 (.slice C k cc) k (gs.map fun x=>ptrV x.1)*(FlsP gs*F))) w15):=ah hs;clear hs;go_wp2_with (at_builtin;refine wpList_appS rfl (.tmp 49) (.tmp 51) 151 rfl 155 i0 _ 1 8 Tryz.underlying151 hi0.o hz0.o hz1.o hz2.o rfl (by decide) (.slice C k cc) k (gs.map fun x=>ptrV x.1) rfl w0 _ (by exact(HS15.o.alloc' _).up2) (some ⟨w15.heap.size,0,none⟩) 1 1 [ptrV B14] rfl (lit_rdv _ _ _) rfl (fun u hu=>by rw[List.mem_singleton.1 hu];rfl) (by unfold maxLen;omega) (by omega) ?_;intro A16 c16 w16 hs;have HS16:=ah hs;clear hs);refine⟨⟨k+1,A16,c16,gs++[(B14,⟨n1,n2,n3,n4,0,[]⟩)],hkn,rfl,by rw[HN1.o.1,HN1.o.2.1,HN1.o.2.2],by push_cast;rfl,?_⟩,by simp[intOf];omega⟩;refine⟨by rw[List.length_append,HD.o.1];rfl,by rw[List.map_append,HRw.o,List.map_append,HD.o.2.1];rfl,?_⟩;have h8:=(HS16.o.up2.rolNil [] (by simp)).row_nil 41 1;have h9:=Sat.flI (ks:=[]) (f:=⟨n1,n2,n3,n4,0,[]⟩) (v:= .slice none 0 0) (p:=B14) rfl (h8.of (show _=Pt B14 163 (flC ⟨n1,n2,n3,n4,0,[]⟩ (.slice none 0 0))*(Row 41 1 (.slice none 0 0) 0 []*(RoL []*(Row 155 1 (.slice A16 (k+1) c16) (k+1) ((gs.map fun x=>ptrV x.1)++[ptrV B14])*(FlsP gs*F)))) by ac_rfl));rw[List.map_append,fls_app,fls_one];exact h9.of (by show _=Row _ 1 _ _ (_++[ptrV B14])*((FlsP gs*FlP B14 ⟨n1,n2,n3,n4,0,[]⟩)*F);ac_rfl)
    .obtain rfl:k=n:=by omega
     have hk2:¬ (k:Int)<k:=by omega
     go_wp2_with fail;go_ret3
     refine .inr ⟨turn,_,_,gs,HU.o,rfl,HD.o.2.1,?_⟩;rw[HD.o.1];exact HD.o.2.2
  .have HU:Hid (unsealB b=none):=by unfold Hid unsealB;rw[if_neg];rintro ⟨_,h9⟩;rw[<-HX.o] at h9;exact hx24 h9
   have hx25:(24:Int)<x.toNat:=by omega
   go_wp2_with fail;go_ret3
   exact .inl ⟨HU.o,rfl,HS.o⟩
end
section
variable {w0 w:World} {F:SP} {d:Nat} {D:Dk}
def bestK (D:Dk):Nat->Option Spc
 | 0=>none
 | k+1=>bestH D (bestK D k) k
def ptrP:Option Nat->Value
 | some s=> .pointer (some ⟨s,0,none⟩)
 | none=> .pointer none
def NoP:SP:=fun _=>False
def OptP (d:Nat):Option Nat->Option Spc->SP
 | some s,some S=>SpaceP s d S
 | none,none=>Emp
 | _,_=>NoP
theorem Sat.row_rbX {n:Nat} {A:Option Addr} {c:Nat} {l:List UInt8} (h:Sat w0 (Row 5 1 (.slice A n c) n (l.map bv)*F) w):Sat w0 (Rb A l*F) w:=by
 have h2:=h.row_rol;rw[rb_rol (A,c,l)];exact h2
theorem Sat.no (h:Sat w0 (NoP*F) w):False:=by
 obtain⟨c,x,h1,a,g,h2,h3,h4,h5⟩:=h;exact h4
theorem opt_none {p:Option Nat} (h:Sat w0 (OptP d p none*F) w):p=none:=by
 cases p with
 | none=>rfl
 | some s=>exact h.no.elim
theorem opt_some {p:Option Nat} {S:Spc} (h:Sat w0 (OptP d p (some S)*F) w): ∃ s,p=some s:=by
 cases p with
 | none=>exact h.no.elim
 | some s=>exact⟨s,rfl⟩
theorem Sat.read_len (h:Sat w0 (Disk d D*F) w) (i:Int) (h0:(D.read i).2=0) (ho:D.off=false) (hi:0<=i/\i<D.cells.length):(D.read i).1.length=512:=by
 obtain⟨C,cc,M,nm,vp,cs,ps,hr,hn,hs⟩:=h.disk;have ha:D.ask i=0:=Dk.ask_ok ho hi.1 hi.2;unfold Dk.read at h0 ⊢;rw[if_pos ha] at h0 ⊢
 cases hl:D.last i with
 | some b=>
  simp only;unfold Dk.last at hl;obtain⟨x,h1,h2⟩:=Option.map_eq_some_iff.1 hl;have h3:=List.mem_reverse.1 (List.mem_of_find?_eq_some h1);rw[hr.pend] at h3;obtain⟨y,hy,rfl⟩:=List.mem_map.1 h3;rw[<-h2];exact(hr.fitp y hy).2.1
 | none=>
  rw[hl] at h0;simp only at h0 ⊢;obtain⟨j,rfl⟩: ∃ j:Nat,i=j:=⟨i.toNat,by omega⟩;rw[Int.toNat_natCast,List.getElem?_eq_getElem (by omega)] at h0 ⊢;have hm:D.cells[j] ∈ cs.map fun x=>(x.1.2.2,x.2):=by rw[<-hr.cells];exact List.getElem_mem _
  obtain⟨y,hy,e⟩:=List.mem_map.1 hm;rw[<-e] at h0 ⊢;simp only at h0 ⊢
  cases ht:y.2 with
  | true=>rw[ht] at h0;simp at h0
  | false=>
   simp only[Bool.false_eq_true,if_false];rcases(hr.fitc y hy).2 with e1 | e1
   .rw[if_pos e1];simp
   .rw[if_neg (by intro e2;rw[e2] at e1;simp at e1)];exact e1
theorem read_codes (D:Dk) (i:Int) (ho:D.off=false) (hi:0<=i/\i<D.cells.length):(D.read i).2=0\/(D.read i).2=24:=by
 have ha:D.ask i=0:=Dk.ask_ok ho hi.1 hi.2;unfold Dk.read;rw[if_pos ha]
 cases D.last i with
 | some b=>exact .inl rfl
 | none=>
  simp only;split
  .rename_i b t _
   cases t
   .left;simp only[Bool.false_eq_true,if_false];split<;>rfl
   .right;rfl
  .exact .inl rfl
theorem unsealB_small {b:List UInt8} {turn:Nat} {hs:List Hd} (h:unsealB b=some (turn,hs)):hs.length<=24/\turn<18446744073709551616/\ ∀ x ∈ hs,HdOk x:=by
 have hrow: ∀ (n:Nat) (r:List UInt8),(rowsH n r).length=n/\ ∀ x ∈ rowsH n r,HdOk x:=fun n=>by
  induction n with
  | zero=>intro r;exact⟨rfl,by simp[rowsH]⟩
  | succ n ih=>
   intro r;obtain⟨h1,h2⟩:=ih (r.drop 20);refine⟨by show (rowsH n (r.drop 20)).length+1=_;rw[h1],fun x hx=>?_⟩;rcases List.mem_cons.1 (show x ∈ hdOf r::rowsH n (r.drop 20) from hx) with rfl | hx
   .exact hdOf_small r
   .exact h2 x hx
 unfold unsealB at h;split at h
 .rename_i h1;injection h with h
  injection h with h2 h3
  obtain⟨h4,h5⟩:=hrow (b.getD 12 0).toNat (b.drop 13);rw[<-h3];exact⟨by rw[h4];exact h1.2,by rw[<-h2];exact getN_lt64 _ (by simp;omega),h5⟩
 .cases h
def RdX (w0:World) (F:SP) (d:Nat) (D:Dk) (e:Ending) (w':World):Prop:=
 ∃ p,e = .returned (.tuple #[ptrP p,.int .i64 (readX D).2])/\Sat w0 (OptP d p (readX D).1*(Disk d D*F)) w'
theorem readS_any (h:Sat w0 (Disk d D*F) w) (h2:2<=D.cells.length) (hN:D.cells.length<=65536):
  Calls Tryz.prog 90 #[.pointer (some ⟨d,0,none⟩)] w (RdX w0 F d D):=by
 have HS:=ah h;have HN:=ah hN;by_cases ho:D.off=true
 .have HRd:=ah (read_any d D 0 w0 w F h);have HR:Hid (D.read ((0:Nat):Int)=([],21)):=read_off D _ ho;have HX:Hid (readX D=(none,21)):=by unfold Hid readX;rw[if_pos ho]
  clear h ho;go_enter Tryz.func90, Tryz.ntmps90;go_wp2_with fail;go_loopw [4,11] (fun sv iv wr=>sv = .pointer none/\iv = .int .i64 0/\wr=w) (fun _ iv _=>0)
  case atStart=>exact⟨rfl,rfl,rfl⟩
  case round=>
   obtain⟨rfl,rfl,rfl⟩:=hrel;go_wp2_with (go_at_call 128;(with_reducible refine HRd.o.mono ?_);rintro e w2 ⟨v,rfl,hs⟩;rw[show (D.read 0).2=21 from congrArg Prod.snd HR.o];have HS2:=ah hs;clear hs);go_ret2;refine⟨none,?_,?_⟩
   .rw[HX.o];rfl
   .rw[HX.o];exact HS2.o.right.of (emp_star _).symm
 .have ho':D.off=false:=by simpa using ho
  have HX:Hid (readX D=(bestK D 2,0)):=by unfold Hid readX;rw[if_neg ho];rfl
  have HO:=ah ho';have HC:=ah h2;clear h ho ho' h2 hN;go_enter Tryz.func90, Tryz.ntmps90;go_wp2_with fail;go_loopw [4,11] (fun sv iv wr=> ∃ (k:Nat) (p:Option Nat),k<=2/\iv = .int .i64 (k:Int)/\sv=ptrP p/\Hid (Sat w0 (OptP d p (bestK D k)*(Disk d D*F)) wr)) (fun _ iv _=>2 - (intOf iv).toNat)
  case atStart=>exact⟨0,none,by omega,rfl,rfl,HS.o.of (emp_star _).symm⟩
  case round=>
   obtain⟨k,p,hk,rfl,rfl,HD⟩:=hrel;by_cases hlt:k<2
   .have hk2:(k:Int)<2:=by omega
    have hkl:k<D.cells.length:=by have:=HC.o;omega
    have HRd:=ah (read_any d D k w0 wr _ HD.o.up2);have HB:Hid (bestK D (k+1)=bestH D (bestK D k) k):=rfl;obtain⟨r,hr⟩: ∃ r,r=D.read k:=⟨_,rfl⟩;have HRe:=ah hr;have HL:Hid (r.2=0->r.1.length=512):=fun h9=>by rw[hr] at h9 ⊢;exact HD.o.up2.read_len k h9 HO.o ⟨by omega,by omega⟩
    have hcode:r.2=0\/r.2=24:=by rw[hr];exact read_codes D k HO.o ⟨by omega,by omega⟩
    unfold ReadD at HRd;rw[<-hr] at HRd;clear hr hkl hlt;obtain⟨b,e⟩:=r;have hm:k+1<=2:=by omega
    rcases hcode with h9 | h9
    .obtain rfl:e=0:=h9;have HU:Hid (bestK D (k+1)=match unsealB b with | none=>bestK D k | some (turn,hs)=>if liesH D.cells.length hs=true/\newerH (bestK D k) turn=true then some ⟨k,turn,hs.map Hd.fl⟩ else bestK D k):=by
      unfold Hid;rw[HB.o];unfold bestH;rw[<-HRe.o];rfl
     have hl:b.length=512:=HL.o rfl;have HRd2:Hid (Calls Tryz.prog 128 #[.pointer (some ⟨d,0,none⟩),.int .i64 (k:Int)] wr fun e w'=> ∃ A c,e = .returned (.tuple #[.slice A 512 c,.int .i64 0])/\512<=c/\c<=9223372036854775807/\Sat w0 (Rb A b*(Disk d D*(OptP d p (bestK D k)*F))) w'):=HRd.o.mono fun e w' ⟨v,he,hs⟩=>by
      rw[hl] at hs;obtain⟨A,c,rfl,hc1,hc2⟩:=hs.row_sl;exact⟨A,c,he,hc1,by unfold maxLen at hc2;omega,hs.row_rbX⟩
     clear HB HRe HL HRd;go_upto_region 9 with (go_at_call 128;(with_reducible refine HRd2.o.mono ?_);rintro e w2 ⟨A,c,rfl,hc1,hc2,hs⟩;have HS2:=ah hs;clear hs)
     have HUn:=ah (unseal_any A c b HS2.o (fun W hW=>hW.rd) hl hc1 hc2);have HBx:Hid (∀ turn hs,unsealB b=some (turn,hs)->hs.length<=24/\turn<18446744073709551616/\ ∀ x ∈ hs,HdOk x):=fun _ _ h=>unsealB_small h
     obtain⟨o,hob⟩: ∃ o,o=unsealB b:=⟨_,rfl⟩;rw[<-hob] at HUn HU HBx;clear hob hl hc1 hc2;go_upto_region 10 with (go_at_call 129;(with_reducible refine HUn.o.mono ?_);rintro e w3 hu;rcases hu with ⟨rfl,rfl,hs⟩ | ⟨turn,hds,V,gs,rfl,rfl,hg,hs⟩)
     .have HS3:=ah hs;clear hs;go_wp2_with fail;go_roundw
      .exact⟨k+1,p,hm,by push_cast;rfl,rfl,by rw[HU.o];exact(HS3.o.right).up2⟩
      .simp[intOf];omega
     .obtain⟨A2,c2,rfl,hd1,hd2⟩:=hs.row_sl;obtain⟨bx1,bx2,bx3⟩:=HBx.o turn hds rfl;have hgl:gs.length=hds.length:=by have:=congrArg List.length hg;simpa using this
      have hgh:gs.map (fun x=>x.2.hd)=hds:=by
       have h9:=congrArg (List.map Fl.hd) hg;rw[List.map_map,List.map_map] at h9;have h10:hds.map (Fl.hd ∘ Hd.fl)=hds:=by
        have:(Fl.hd ∘ Hd.fl)=id:=funext fun x=>rfl
        rw[this,List.map_id]
       rw[h10] at h9;exact h9
      have hs2:=hs.up2;have HLi:=lies_any (gs:=gs) (D:=D) (d:=d) (w0:=w0) (w:=w3) (F:=Row 155 1 (.slice A2 gs.length c2) gs.length (gs.map fun x=>ptrV x.1)*(Rb A b*(OptP d p (bestK D k)*F))) A2 c2 (hs.of (by ac_rfl)) (fun W hW=>RdV.of_own (hW.up3.row_own)) (by omega) (fun x hx=>by
       have h9:x.2.hd ∈ gs.map (fun x=>x.2.hd):=List.mem_map_of_mem hx;rw[hgh] at h9;have h10:=bx3 _ h9;exact⟨h10.2.1,h10.2.2.1⟩) HN.o
      rw[hgh] at HLi;have HLi:=ah HLi;have HG:=ah hg;obtain⟨LB,hLB⟩: ∃ LB,LB=liesH D.cells.length hds:=⟨_,rfl⟩;rw[<-hLB] at HLi HU;have HT:=ah bx2;clear hs hs2 hg hgh hd1 hd2 hLB bx1 bx2 bx3 hgl HBx HUn HRd2
      cases LB
      .go_wp2_with (go_at_call 130;(with_reducible refine HLi.o.mono ?_);rintro e w4 ⟨rfl,hs⟩;have HS4:=ah hs;clear hs);go_roundw
       .refine⟨k+1,p,hm,by push_cast;rfl,rfl,?_⟩;rw[HU.o,if_neg (by simp)];exact HS4.o.right.up2.right.up2.right.up2
       .simp[intOf];omega
      .have HNew:Hid (∀ W s,Sat w0 (Pt s 153 #[ptrV d,.int .i64 (k:Int),.int .u64 (turn:Int),.slice A2 gs.length c2]*(FlsP gs*(Disk d D*(Row 155 1 (.slice A2 gs.length c2) gs.length (gs.map fun x=>ptrV x.1)*(Rb A b*(OptP d p (bestK D k)*F)))))) W->Sat w0 (SpaceP s d ⟨k,turn,hds.map Hd.fl⟩*(Disk d D*F)) W):=fun W s hW=>by
        refine Sat.spaceI (S:=⟨k,turn,hds.map Hd.fl⟩) (ps:=gs) (v:= .slice A2 gs.length c2) HG.o ?_;refine(hW.up5.right.up5.right).of ?_;unfold SpaceC
        ac_rfl
       obtain⟨o,ho⟩: ∃ o,o=bestK D k:=⟨_,rfl⟩;rw[<-ho] at HU HD HLi HNew;clear ho
       cases o with
       | none=>
        obtain rfl:=opt_none HD.o;go_wp2_with (go_at_call 130;(with_reducible refine HLi.o.mono ?_);rintro e w4 ⟨rfl,hs⟩;have HS4:=ah hs;clear hs;unfold ptrP);go_roundw
        .refine⟨k+1,some w4.heap.size,hm,by push_cast;rfl,rfl,?_⟩;rw[HU.o,if_pos (by first | exact⟨rfl,rfl⟩ | exact⟨trivial,rfl⟩)];exact HNew.o _ _ (HS4.o.allocPt _ _)
        .simp[intOf];omega
       | some S0=>
        obtain⟨s0,rfl⟩:=opt_some HD.o;by_cases ht:(S0.turn:Int)<turn
        .go_wp2_with (go_at_call 130;(with_reducible refine HLi.o.mono ?_);rintro e w4 ⟨rfl,hs⟩;have HS4:=ah hs;clear hs;unfold ptrP;have g2:w4.cell? ⟨s0,2,none⟩=some (.int .u64 (S0.turn:Int)):=by (obtain⟨v,ps,_,h9⟩:=(HS4.o.up5).space;exact(h9.of space_d).cell 2));go_roundw
         .refine⟨k+1,some w4.heap.size,hm,by push_cast;rfl,rfl,?_⟩;rw[HU.o,if_pos (by first | exact⟨rfl,decide_eq_true (by omega)⟩ | exact⟨trivial,decide_eq_true (by omega)⟩)];exact HNew.o _ _ (HS4.o.allocPt _ _)
         .simp[intOf];omega
        .go_wp2_with (go_at_call 130;(with_reducible refine HLi.o.mono ?_);rintro e w4 ⟨rfl,hs⟩;have HS4:=ah hs;clear hs;unfold ptrP;have g2:w4.cell? ⟨s0,2,none⟩=some (.int .u64 (S0.turn:Int)):=by (obtain⟨v,ps,_,h9⟩:=(HS4.o.up5).space;exact(h9.of space_d).cell 2));go_roundw
         .refine⟨k+1,some s0,hm,by push_cast;rfl,rfl,?_⟩;rw[HU.o,if_neg (by rintro ⟨_,h9⟩;exact absurd (of_decide_eq_true h9) (by omega))];exact HS4.o.right.up2.right.up2.right.up2
         .simp[intOf];omega
    .obtain rfl:e=24:=h9;have HU:Hid (bestK D (k+1)=bestK D k):=by
      unfold Hid;rw[HB.o];unfold bestH;rw[<-HRe.o];rfl
     have HRd2:Hid (Calls Tryz.prog 128 #[.pointer (some ⟨d,0,none⟩),.int .i64 (k:Int)] wr fun e w'=> ∃ v,e = .returned (.tuple #[v,.int .i64 24])/\Sat w0 (Disk d D*(OptP d p (bestK D k)*F)) w'):=HRd.o.mono fun e w' ⟨v,he,hs⟩=>⟨v,he,hs.right⟩
     clear HB HRe HL HRd;go_wp2_with (go_at_call 128;(with_reducible refine HRd2.o.mono ?_);rintro e w2 ⟨v,rfl,hs⟩;have HS2:=ah hs;clear hs);go_roundw
     .exact⟨k+1,p,hm,by push_cast;rfl,rfl,by rw[HU.o];exact HS2.o.up2⟩
     .simp[intOf];omega
   .have HK:Hid (k=2):=by unfold Hid;omega
    have hk2:¬ (k:Int)<2:=by omega
    go_wp2_with fail;go_ret2;refine⟨p,?_,?_⟩
    .rw[HX.o];rfl
    .rw[HX.o];have h9:=HD.o;rw[HK.o] at h9;exact h9
end
section
variable {w0 w:World} {F:SP} {d:Nat} {D:Dk}
structure SpcOk (n:Nat) (S:Spc):Prop where
 slot:S.slot<2
 turn:S.turn<18446744073709551616
 count:S.files.length<=24
 bare: ∀ f ∈ S.files,f.frames=[]/\f.life=0
 each: ∀ f ∈ S.files,HdOk f.hd/\2<=f.first/\1<=f.blocks/\(f.first+f.blocks<=n)
theorem bestH_ok {o:Option Spc} {k:Nat} (hk:k<2) (ho: ∀ S,o=some S->SpcOk D.cells.length S): ∀ S,bestH D o k=some S->SpcOk D.cells.length S:=fun S h=>by
 unfold bestH at h;split at h
 .exact ho S h
 .split at h
  .exact ho S h
  .rename_i turn hs e;split at h
   .rename_i e2;injection h with h
    obtain⟨h1,h2,h3⟩:=unsealB_small e;have hl:=e2.1;unfold liesH at hl;rw[List.all_eq_true] at hl;subst h;refine⟨hk,h2,by rw[List.length_map];exact h1,fun f hf=>?_,fun f hf=>?_⟩
    .obtain⟨x,hx,rfl⟩:=List.mem_map.1 hf;exact⟨rfl,rfl⟩
    .obtain⟨x,hx,rfl⟩:=List.mem_map.1 hf;have h5:=of_decide_eq_true (hl x hx);have:x.fl.hd=x:=rfl;refine⟨by rw[this];exact h3 x hx,h5.1,h5.2.1,?_⟩;show x.first+x.blocks<=_;omega
   .exact ho S h
theorem readX_ok {S:Spc} (h:(readX D).1=some S):SpcOk D.cells.length S:=by
 unfold readX at h;split at h
 .cases h
 .exact bestH_ok (by omega) (bestH_ok (by omega) (fun S h=>by cases h)) S h
theorem readX_codes (D:Dk):(readX D).2=0\/(readX D).2=21:=by
 unfold readX;split
 .exact .inr rfl
 .exact .inl rfl
theorem readX_off (h:(readX D).2=21):(readX D).1=none:=by
 unfold readX at h ⊢;split
 .rfl
 .rename_i h1;rw[if_neg h1] at h
  cases h
theorem put_cases (S:Spc) (D:Dk) (fs:List Fl) (R1 R2:Dk × Int) (h1:R1=D.write (slotN S.slot:Int) (sealB (turnN S.turn) (fs.map Fl.hd))) (h2:R2=R1.1.flush):
  (R1.2≠0->S.put fs D=(S,R1.1,R1.2))/\(R1.2=0->R2.2≠0->S.put fs D=(S,R2.1,R2.2))/\(R1.2=0->R2.2=0->S.put fs D=(⟨slotN S.slot,turnN S.turn,fs⟩,R2.1,0)):=by
 have e:S.put fs D=if R1.2≠0 then (S,R1.1,R1.2) else if R2.2≠0 then (S,R2.1,R2.2) else (⟨slotN S.slot,turnN S.turn,fs⟩,R2.1,0):=by
  subst h2;subst h1;rfl
 rw[e];exact⟨fun h=>if_pos h,fun h h'=>by rw[if_neg (by simpa using h),if_pos h'],fun h h'=>by rw[if_neg (by simpa using h),if_neg (by simpa using h')]⟩
def PutY (w0:World) (F:SP) (s d:Nat) (S:Spc) (v V:Value) (gs:List (Nat × Fl)) (r:Spc × Dk × Int) (e:Ending) (w':World):Prop:=
 e = .returned (.int .i64 r.2.2)/\(r.2.2≠0->r.1=S/\Sat w0 (Pt s 153 #[ptrV d,.int .i64 (S.slot:Int),.int .u64 (S.turn:Int),v]*(Row 155 1 V gs.length (gs.map fun x=>ptrV x.1)*(FlsP gs*(Disk d r.2.1*F)))) w')/\
  (r.2.2=0->r.1.files=gs.map (·.2)/\Sat w0 (SpaceC s d r.1.slot r.1.turn V gs*(Disk d r.2.1*F)) w')
theorem putX_put {S:Spc} {s:Nat} {v V:Value} {gs:List (Nat × Fl)} {e:Ending} {w':World} (h:PutX w0 F s d S.slot S.turn v V gs (D.write (slotN S.slot:Int) (sealB (turnN S.turn) (gs.map fun x=>x.2.hd))) (D.write (slotN S.slot:Int) (sealB (turnN S.turn) (gs.map fun x=>x.2.hd))).1.flush e w'):
  PutY w0 F s d S v V gs (S.put (gs.map (·.2)) D) e w':=by
 have em:gs.map (fun x=>x.2.hd)=(gs.map (·.2)).map Fl.hd:=by rw[List.map_map];rfl
 obtain⟨c1,c2,c3⟩:=put_cases S D (gs.map (·.2)) _ _ rfl rfl;rw[em] at h;rcases h with ⟨h1,h2,h3⟩ | ⟨h1,h2,h3,h4⟩ | ⟨h1,h2,h3,h4⟩
 .rw[c1 h1];exact⟨h2,fun _=>⟨rfl,h3⟩,fun h9=>absurd h9 h1⟩
 .rw[c2 h1 h2];exact⟨h3,fun _=>⟨rfl,h4⟩,fun h9=>absurd h9 h2⟩
 .rw[c3 h1 h2];refine⟨h3,fun h9=>absurd rfl h9,fun _=>⟨rfl,h4.of ?_⟩⟩;rw[space_d];rfl
theorem format_any (h:Sat w0 (Disk d D*F) w) (h2:2<=D.cells.length) (hN:D.cells.length<=65536) (hw1:D.writes<=1000000000) (hw2:D.pend.length<=999999999) (hw3:D.armed<=9223372036854775807):
  Calls Tryz.prog 52 #[.pointer (some ⟨d,0,none⟩)] w fun e w'=>e = .returned (.int .i64 (formatX D).2)/\Sat w0 (Disk d (formatX D).1*F) w':=by
 have HRd:=ah (readS_any h h2 hN);have HN:=ah (And.intro hN (And.intro hw1 (And.intro hw2 hw3)));clear h h2 hN hw1 hw2 hw3;rcases readX_codes D with hc | hc
 .have HF:Hid (formatX D=(((((readX D).1).getD ⟨0,0,[]⟩).put [] D).2.1,((((readX D).1).getD ⟨0,0,[]⟩).put [] D).2.2)):=by
   unfold Hid formatX;rw[if_neg (by rw[hc];simp)]
  have HOk:Hid (∀ S,(readX D).1=some S->SpcOk D.cells.length S):=fun S h=>readX_ok h
  unfold RdX at HRd;rw[hc] at HRd;clear hc;obtain⟨o,ho⟩: ∃ o,o=(readX D).1:=⟨_,rfl⟩;rw[<-ho] at HRd HF HOk;clear ho;have HPut:Hid (∀ (S:Spc) (s:Nat) (v:Value) W,S.slot<2->S.turn<18446744073709551616->Sat w0 (Pt s 153 #[ptrV d,.int .i64 (S.slot:Int),.int .u64 (S.turn:Int),v]*(Disk d D*F)) W->
    Calls Tryz.prog 91 #[.pointer (some ⟨s,0,none⟩),.slice none 0 0] W fun e w'=>e = .returned (.int .i64 (S.put [] D).2.2)/\Sat w0 (Disk d (S.put [] D).2.1*F) w'):=fun S s v W h1 h2 hW=>by
   have h3:=((hW.up2.of (show _=Emp*(Disk d D*(Pt s 153 #[ptrV d,.int .i64 (S.slot:Int),.int .u64 (S.turn:Int),v]*F)) by rw[emp_star])).row_nil 155 1);have h4:=put_any (s:=s) (d:=d) (w0:=w0) (w:=W) (slot:=S.slot) (turn:=S.turn) (v:=v) (V:= .slice none 0 0) (gs:=[]) (F:=F) (D:=D) (h3.of (by show _=Pt _ _ _*(Row _ _ _ 0 []*(Emp*_));ac_rfl)) (by simp) h1 h2 (by simp) HN.o.2.1 HN.o.2.2.1 HN.o.2.2.2;refine h4.mono fun e w' h5=>?_
   obtain⟨k1,k2,k3⟩:=putX_put h5;refine⟨k1,?_⟩;by_cases h9:(S.put ((List.map (fun x=>x.2) ([]:List (Nat × Fl)))) D).2.2=0
   .exact(k3 h9).2.right
   .exact(k2 h9).2.right.right.right
  cases o with
  | none=>
   go_enter Tryz.func52, Tryz.ntmps52;go_upto_region 2 with (go_at_call 90;(with_reducible refine HRd.o.mono ?_);rintro e w2 ⟨p,rfl,hs⟩;obtain rfl:=opt_none hs;unfold ptrP;have HS2:=ah hs;clear hs)
   go_upto_region 6 with fail;have hs:=HS2.o.right.allocPt 153 #[.pointer (some ⟨d,0,none⟩),.int .i64 0,.int .u64 0,.slice none 0 0];have HP:=ah (HPut.o ⟨0,0,[]⟩ _ _ _ (by show 0<2;omega) (by show 0<_;omega) hs);clear hs;go_wp2_with (go_at_call 91;(with_reducible refine HP.o.mono ?_);rintro e w3 ⟨rfl,hs⟩;have HS3:=ah hs;clear hs);go_ret;rw[HF.o];exact⟨rfl,HS3.o⟩
  | some S=>
   have hok:=HOk.o S rfl;have HSl:=ah hok.slot;have HTu:=ah hok.turn;clear hok;go_enter Tryz.func52, Tryz.ntmps52;go_upto_region 2 with (go_at_call 90;(with_reducible refine HRd.o.mono ?_);rintro e w2 ⟨p,rfl,hs⟩;obtain⟨s,rfl⟩:=opt_some hs;unfold ptrP;obtain⟨v,ps,_,h9⟩:=hs.space;have HP:=ah (HPut.o S s v w2 HSl.o HTu.o ((h9.of space_d).up3.right.up2.right));clear hs h9)
   go_wp2_with (go_at_call 91;(with_reducible refine HP.o.mono ?_);rintro e w3 ⟨rfl,hs⟩;have HS3:=ah hs;clear hs);go_ret;rw[HF.o];exact⟨rfl,HS3.o⟩
 .have HF:Hid (formatX D=(D,21)):=by unfold Hid formatX;rw[if_pos hc]
  have hn:=readX_off hc;unfold RdX at HRd;rw[hc,hn] at HRd;clear hc hn;go_enter Tryz.func52, Tryz.ntmps52;go_wp2_with (go_at_call 90;(with_reducible refine HRd.o.mono ?_);rintro e w2 ⟨p,rfl,hs⟩;obtain rfl:=opt_none hs;unfold ptrP;have HS2:=ah hs;clear hs);go_ret;rw[HF.o];exact⟨rfl,HS2.o.right⟩
end
end Go.Proofs.YtmbaiglpgaoogaaGreat
