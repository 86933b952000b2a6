/- Joined, as they were built one by one: Ext14 ExtR BlkTwin RgM BlkNew. -/
import Derived.Maps.RangeWalk
import Derived.Test.YtmbaiglpgaoogaaGreatW03
import Derived.Test.YtmbaiglpgaoogaaGreatW04
import Derived.Test.YtmbaiglpgaoogaaGreatW06
import Derived.Test.YtmbaiglpgaoogaaGreatW08
set_option maxHeartbeats 16000000
set_option linter.unusedVariables false
set_option maxRecDepth 100000
namespace Go.Proofs.YtmbaiglpgaoogaaGreat
open Go.RowKit Z
theorem An {w:World} {A:Option Addr} {l:List Int} (h:aF w A (l.map (Value.int .i64))) {k:Nat} (hk:k<l.length): ∃ b o,A=some ⟨b,o,none⟩/\w.cell? ⟨b,o+k,none⟩=some (.int .i64 l[k]):=by
 obtain⟨b,o,e,hc⟩:=h (by intro e;have:=congrArg List.length e;simp at this;rw[this] at hk;simp at hk);refine⟨b,o,e,?_⟩;have:=hc k (by simpa using hk);rw[this];simp
def KX (l:List Int) (x z:Int):Prop:=(l.contains x=true/\0<=z)\/(l.contains x=false/\z<0)
theorem CF (A:Option Addr) (n c:Nat) (l:List Int) (x:Int) (w:World) (hr:aF w A (l.map (Value.int .i64))) (hn:l.length=n) (hl:n<=1000000000):
 Calls Tryz.prog 134 #[.slice A n c,.int .i64 x] w fun e w'=>(∃ z:Int,e = .returned (.int .i64 z)/\KX l x z)/\w=w':=by
 subst hn;have HR:=ah hr;clear hr;go_enter Tryz.func134, Tryz.ntmps134;go_wp2_with fail;go_loopw [8] (fun iv wr=> ∃ k:Nat,k<=l.length/\iv = .int .i64 (k:Int)/\wr=w/\Hid (∀ j (hj:j<k) (hl:j<l.length),x≠l[j])) (fun iv _=>l.length - (intOf iv).toNat)
 case atStart=>exact⟨0,by omega,rfl,rfl,fun j hj=>by omega⟩
 case round=>
  obtain⟨k,hk,rfl,rfl,HD⟩:=hrel;by_cases hlt:k<l.length
  .obtain⟨b,o,rfl,hc⟩:=An HR.o hlt;have hk2:(k:Int)<l.length:=by omega
   have HM:Hid (l[k] ∈ l):=List.getElem_mem hlt;have HS:Hid (x≠l[k]-> ∀ j (hj:j<k+1) (hl:j<l.length),x≠l[j]):=fun hne j hj hl=>by
    by_cases e:j=k
    .subst e;exact hne
    .exact HD.o j (by omega) hl
   have hkn:k+1<=l.length:=hlt;generalize l[k]=y at*
   by_cases e:x=y
   .go_wp2_with fail;go_ret;exact⟨⟨(k:Int),rfl,.inl ⟨by rw[List.contains_iff_mem,e];exact HM.o,by omega⟩⟩,rfl⟩
   .have HS2:=ah (HS.o e);go_wp2_with fail;go_roundw
    .exact⟨k+1,hkn,by push_cast;rfl,trivial,HS2.o⟩
    .simp[intOf];omega
  .have hk2:¬ (k:Int)<l.length:=by omega
   have HN:Hid (l.contains x=false):=by
    unfold Hid;rw[List.contains_eq_mem,decide_eq_false_iff_not];intro hm;obtain⟨j,hj,e⟩:=List.getElem_of_mem hm;exact HD.o j (by omega) hj e.symm
   go_wp2_with fail;go_ret;exact⟨⟨-1,rfl,.inr ⟨HN.o,by omega⟩⟩,rfl⟩
theorem jL (A:Option Addr) (n c:Nat) (l:List Int) (x:Int) (w:World) (hr:aF w A (l.map (Value.int .i64))) (hn:l.length=n) (hl:n<=1000000000):
 Calls Tryz.prog 97 #[.slice A n c,.int .i64 x] w fun e w'=>e = .returned (.bool (l.contains x))/\w=w':=by
 have HI:=ah (CF A n c l x w hr hn hl);clear hr hn hl;go_enter Tryz.func97, Tryz.ntmps97;go_wp2_with (go_at_call 134;(with_reducible refine HI.o.mono ?_);rintro e wx ⟨⟨z,rfl,hz⟩,rfl⟩);go_ret;rcases hz with ⟨h1,h2⟩ | ⟨h1,h2⟩
 .rw[h1];exact⟨congrArg (fun b=>Ending.returned (.bool b)) (decide_eq_true h2),rfl⟩
 .rw[h1];exact⟨congrArg (fun b=>Ending.returned (.bool b)) (decide_eq_false (by omega)),rfl⟩
def Dd (f:Fi):List Value:=[.int .i64 f.num,.int .i64 f.first,.int .i64 f.blocks]
section
variable {w0 w:World} {F:SP} {s d slot turn:Nat} {v:Value} {ps:List (Nat × Fl)} {S:aK}
theorem vQ {ps:List (Nat × Fl)} {n:Int} (h:ps.map (·.2)=S.files):(mY ps[eP ps n]? = .pointer none/\(S.find n).isSome=false)\/ ∃ q,mY ps[eP ps n]? = .pointer (some ⟨q,0,none⟩)/\(S.find n).isSome=true:=by
 rw[nC h]
 cases ps[eP ps n]? with
 | none=>exact .inl ⟨rfl,rfl⟩
 | some x=>exact .inr ⟨x.1,rfl,rfl⟩
theorem Em {w:World} {A:Option Addr} {l:List Fi} (h:aF w A (l.flatMap Dd)) {k:Nat} (hk:k<l.length): ∃ b o,A=some ⟨b,o,none⟩/\w.cell? ⟨b,o+k*3,none⟩=some (.int .i64 l[k].num)/\w.cell? ⟨b,o+k*3+1,none⟩=some (.int .i64 l[k].first)/\w.cell? ⟨b,o+k*3+2,none⟩=some (.int .i64 l[k].blocks):=by
 have hlen: ∀ l:List Fi,(l.flatMap Dd).length=l.length*3:=fun l=>by
  induction l with
  | nil=>rfl
  | cons x l ih=>rw[List.flatMap_cons,List.length_append,ih,List.length_cons];show 3+_=_;omega
 have hget: ∀ (l:List Fi) (k j:Nat) (hk:k<l.length) (hj:j<3),(l.flatMap Dd)[k*3+j]?=(Dd l[k])[j]?:=fun l=>by
  induction l with
  | nil=>intro k j hk;cases hk
  | cons x l ih=>
   intro k j hk hj
   cases k with
   | zero=>
    rw[List.flatMap_cons,List.getElem?_append_left (by show 0*3+j<3;omega)];simp
   | succ k=>
    rw[List.flatMap_cons,List.getElem?_append_right (by show 3<=_;omega)];show (l.flatMap Dd)[(k+1)*3+j - 3]?=_;rw[show (k+1)*3+j - 3=k*3+j by omega];exact ih k j (by simpa using hk) hj
 have hl:=hlen l;obtain⟨b,o,e,hc⟩:=h (by intro e;have h9:l.length*3=0:=(by rw[<-hl,e];rfl);omega);have key: ∀ j,j<3->w.cell? ⟨b,o+k*3+j,none⟩=(Dd l[k])[j]?:=fun j hj=>by
  have hij:k*3+j<(l.flatMap Dd).length:=by rw[hl];omega
  have:=hc (k*3+j) hij;rw[Nat.add_assoc,this, <-List.getElem?_eq_getElem hij,hget l k j hk hj]
 exact⟨b,o,e,key 0 (by omega),key 1 (by omega),key 2 (by omega)⟩
def tg (l:List Int):Int->Option Value:=fun i=>if i ∈ l then some (.agg #[]) else none
theorem xR (l:List Int) (x:Int):F5 (tg l) x (.agg #[])=tg (l++[x]):=by
 funext i
 unfold F5 tg;by_cases e:i=x
 .subst e;simp
 .rw[if_neg e];simp[e]
theorem Hz (w:World):(zeroValue 212).run Tryz.prog w = .ok (.agg #[]) w:=by kernel_rfl
theorem H9 (A1:Option Addr) (c1:Nat) (add:List Fi) (A2:Option Addr) (c2:Nat) (drop:List Int) (h:Sat w0 (aP s d slot turn v ps*F) w) (hps:ps.map (·.2)=S.files) (hpl:ps.length<=1000) (hadd: ∀ W,Sat w0 F W->aF W A1 (add.flatMap Dd)) (hdrop: ∀ W,Sat w0 F W->aF W A2 (drop.map (Value.int .i64)))
 (hn1:add.length<=1000000) (hn2:drop.length<=1000000) (hc2:drop.length<=c2) (hb: ∀ f ∈ add,(-9223372036854775808<=f.num/\f.num<=9223372036854775807)/\(-9223372036854775808<=f.blocks/\f.blocks<=9223372036854775807)) (hbd: ∀ n ∈ drop, -9223372036854775808<=n/\n<=9223372036854775807):
 Calls Tryz.prog 94 #[.pointer (some ⟨s,0,none⟩),.slice A1 add.length c1,.slice A2 drop.length c2] w fun e w'=>e = .returned (.bool (S.may add drop))/\Sat w0 (aP s d slot turn v ps*F) w':=by
 have HS:=ah h;have HP:=ah hps;have HF1:Hid (∀ W,Sat w0 (aP s d slot turn v ps*F) W->aF W A1 (add.flatMap Dd)):=fun W hW=>hadd W hW.right
 have HF2:Hid (∀ W,Sat w0 (aP s d slot turn v ps*F) W->aF W A2 (drop.map (Value.int .i64))):=fun W hW=>hdrop W hW.right
 have HB:=ah hb;have HM:Hid (S.may add drop=(S.dJ [] drop && S.eI drop [] add)):=rfl;have HFi:Hid (∀ W n,Sat w0 (aP s d slot turn v ps*F) W->Calls Tryz.prog 103 #[.pointer (some ⟨s,0,none⟩),.int .i64 n] W fun e w'=>e = .returned (mY ps[eP ps n]?)/\W=w'):=fun W n hW=>eb n hW (by omega)
 have HCo:Hid (∀ W n,Sat w0 (aP s d slot turn v ps*F) W->Calls Tryz.prog 97 #[.slice A2 drop.length c2,.int .i64 n] W fun e w'=>e = .returned (.bool (drop.contains n))/\W=w'):=fun W n hW=>jL A2 drop.length c2 drop n W (hdrop W hW.right) rfl (by omega)
 have HCk:Hid (∀ W n k,k<=drop.length->Sat w0 (aP s d slot turn v ps*F) W->Calls Tryz.prog 97 #[.slice A2 k c2,.int .i64 n] W fun e w'=>e = .returned (.bool ((drop.take k).contains n))/\W=w'):=fun W n k hk hW=>jL A2 k c2 (drop.take k) n W (by
  intro hne;obtain⟨b,o,e,hc⟩:=hdrop W hW.right (by intro e;rw[List.map_eq_nil_iff] at e;rw[e] at hne;simp at hne);refine⟨b,o,e,fun j hj=>?_⟩;rw[List.length_map,List.length_take] at hj;have:=hc j (by rw[List.length_map];omega);rw[this];simp) (by rw[List.length_take];omega) (by omega)
 have hmm:= @run_makeMap Tryz.prog;clear h hps hadd hdrop hb hbd hpl;go_enter Tryz.func94, Tryz.ntmps94;go_wp2_with fail;go_loopw [16] (fun iv wr=> ∃ k:Nat,k<=drop.length/\iv = .int .i64 (k:Int)/\wr=w/\Hid (S.dJ [] drop=S.dJ (drop.take k) (drop.drop k))) (fun iv _=>drop.length - (intOf iv).toNat)
 case atStart=>exact⟨0,by omega,rfl,rfl,by unfold Hid;rw[List.take_zero,List.drop_zero]⟩
 case round=>
  obtain⟨k,hk,rfl,rfl,HD⟩:=hrel;by_cases hlt:k<drop.length
  .have hk2:(k:Int)<drop.length:=by omega
   obtain⟨b,o,rfl,hc⟩:=An (HF2.o _ HS.o) hlt;have HN:Hid (S.dJ [] drop=((S.find drop[k]).isSome && !(drop.take k).contains drop[k] && S.dJ (drop.take (k+1)) (drop.drop (k+1)))):=by
    unfold Hid;rw[HD.o,List.drop_eq_getElem_cons hlt,List.take_succ_eq_append_getElem hlt];rfl
   have HX:=vQ (S:=S) (n:=drop[k]) HP.o;have hkc:(k:Int)<=c2:=by omega
   have HCa:=ah (HCk.o wr drop[k] k (by omega) HS.o);have HFa:=ah (HFi.o wr drop[k] HS.o);have hkn:k+1<=drop.length:=hlt;generalize hB:(drop.take k).contains drop[k]=B at*
   generalize hI:(S.find drop[k]).isSome=I at*
   clear hB hI;generalize drop[k]=x at*
   rcases HX with ⟨hx1,rfl⟩ | ⟨q,hx1,rfl⟩
   .rw[hx1] at HFa;have HR:Hid (S.may add drop=false):=by unfold Hid;rw[HM.o,HN.o];rfl
    go_wp2_with (go_at_call 103;(with_reducible refine HFa.o.mono ?_);rintro e wx ⟨rfl,rfl⟩);go_ret;exact⟨by rw[HR.o];rfl,HS.o⟩
   .rw[hx1] at HFa
    cases B
    .have HN2:Hid (S.dJ [] drop=S.dJ (drop.take (k+1)) (drop.drop (k+1))):=by unfold Hid;rw[HN.o];rfl
     go_wp2_with (first | (go_at_call 103;(with_reducible refine HFa.o.mono ?_);rintro e wx ⟨rfl,rfl⟩) | (go_at_call 97;(with_reducible refine HCa.o.mono ?_);rintro e wx ⟨rfl,rfl⟩));go_roundw
     .exact⟨k+1,hkn,by push_cast;rfl,trivial,HN2.o⟩
     .simp[intOf];omega
    .have HR:Hid (S.may add drop=false):=by unfold Hid;rw[HM.o,HN.o];rfl
     go_wp2_with (first | (go_at_call 103;(with_reducible refine HFa.o.mono ?_);rintro e wx ⟨rfl,rfl⟩) | (go_at_call 97;(with_reducible refine HCa.o.mono ?_);rintro e wx ⟨rfl,rfl⟩));go_ret;exact⟨by rw[HR.o];rfl,HS.o⟩
  .have hk2:¬ (k:Int)<drop.length:=by omega
   have HM2:Hid (S.may add drop=S.eI drop [] add):=by
    unfold Hid;rw[HM.o,HD.o,List.drop_eq_nil_of_le (by omega)];rfl
   have hm0:=HS.o.ub (P:= Tryz.prog) (k:= 3);revert hm0;generalize hmb:wr.heap.size=mb;intro hm0;have HM0:=ah hm0;have HMb:=ah hmb;clear HD HM hm0 hmb hk;go_upto_region 8 with fail;rw[HMb.o];go_wp2_with fail;go_loopw [36] (fun iv wr=> ∃ (k n:Nat),k<=add.length/\n<=k/\iv = .int .i64 (k:Int)/\Hid (Sat w0 (bT Tryz.prog 3 mb n (tg ((add.take k).map (·.num)))*(aP s d slot turn v ps*F)) wr/\S.eI drop [] add=S.eI drop ((add.take k).map (·.num)) (add.drop k))) (fun iv _=>add.length - (intOf iv).toNat)
   case atStart=>exact⟨0,0,by omega,by omega,rfl,by have h9:=HM0.o;exact h9.of (by congr 1),by rw[List.take_zero,List.drop_zero];rfl⟩
   case round=>
    obtain⟨k,n,hk,hnk,rfl,HD⟩:=hrel;by_cases hlt:k<add.length
    .have hk2:(k:Int)<add.length:=by omega
     obtain⟨b,o,rfl,q0,q1,q2⟩:=Em (HF1.o _ HD.o.1.right) hlt;have hbx:=HB.o add[k] (List.getElem_mem hlt);obtain⟨sl,hsl⟩: ∃ sl,sl=(add.take k).map (·.num):=⟨_,rfl⟩;have HSn:Hid ((add.take (k+1)).map (·.num)=sl++[add[k].num]):=by
      unfold Hid;rw[List.take_succ_eq_append_getElem hlt,List.map_append,hsl];rfl
     have HN:Hid (S.eI drop [] add=(decide (1<=add[k].num/\add[k].num<=2147483647/\1<=add[k].blocks) && !sl.contains add[k].num && (!(S.find add[k].num).isSome || drop.contains add[k].num) && S.eI drop ((add.take (k+1)).map (·.num)) (add.drop (k+1)))):=by
      unfold Hid;rw[HD.o.2,HSn.o,List.drop_eq_getElem_cons hlt, <-hsl];rfl
     have hD1:=HD.o.1;rw[<-hsl] at hD1;have hkn:k+1<=add.length:=hlt;clear HD hsl;generalize hT:S.eI drop ((add.take (k+1)).map (·.num)) (add.drop (k+1))=T at*
     have HT:=ah hT;clear hT;generalize add[k]=x at*
     obtain⟨xn,xf,xb⟩:=x;dsimp only at q0 q1 q2 hbx HSn HN;have hs1:=hD1.ab 128 #[.int .i64 xn,.int .i64 xf,.int .i64 xb];clear hD1;go_upto_region 11 with fail;revert hs1;generalize World.alloc wr _=w1;generalize wr.heap.size=B1;intro hs1;have HS1:=ah hs1;clear hs1 q0 q1 q2;have p0:w1.cell? ⟨B1,0,none⟩=some (.int .i64 xn):=HS1.o.cell 0;have p2:w1.cell? ⟨B1,2,none⟩=some (.int .i64 xb):=HS1.o.cell 2;by_cases h1:xn<1
     .have HR:Hid (S.may add drop=false):=by unfold Hid;rw[HM2.o,HN.o,decide_eq_false (by omega)];rfl
      go_wp2_with fail;go_ret;exact⟨by rw[HR.o];rfl,HS1.o.right.right⟩
     by_cases h2:2147483647<xn
     .have HR:Hid (S.may add drop=false):=by unfold Hid;rw[HM2.o,HN.o,decide_eq_false (by omega)];rfl
      go_wp2_with fail;go_ret;exact⟨by rw[HR.o];rfl,HS1.o.right.right⟩
     by_cases h3:xb<1
     .have HR:Hid (S.may add drop=false):=by unfold Hid;rw[HM2.o,HN.o,decide_eq_false (by omega)];rfl
      go_wp2_with fail;go_ret;exact⟨by rw[HR.o];rfl,HS1.o.right.right⟩
     have HN2:Hid (S.may add drop=(!sl.contains xn && (!(S.find xn).isSome || drop.contains xn) && T)):=by unfold Hid;rw[HM2.o,HN.o,decide_eq_true (by omega),Bool.true_and]
     clear HN;have hl:=HS1.o.ay.qv (t:= 211) Tryz.underlying3 Tryz.underlying211 (Hz w1) xn (by omega);have HFa:=ah fun W (hW:Sat w0 (aP s d slot turn v ps*F) W)=>HFi.o W xn hW
     have HCa:=ah fun W (hW:Sat w0 (aP s d slot turn v ps*F) W)=>HCo.o W xn hW
     have HX:=vQ (S:=S) (n:=xn) HP.o;have hsn:tg sl xn=if sl.contains xn then some (.agg #[]) else none:=by unfold tg;simp
     rw[hsn] at hl;clear hsn;generalize hB:sl.contains xn=B at*
     generalize hI:(S.find xn).isSome=I at*
     generalize hC:drop.contains xn=C at*
     clear hB hI hC
     cases B
     .simp only[Bool.false_eq_true,if_false,Option.getD_none,Option.isSome_none] at hl;go_upto_region 14 with fail;have hs2:=HS1.o.aD (.cells #[] 212);revert hs2;generalize World.alloc w1 _=w2;generalize w1.heap.size=B2;intro hs2;have HS2:=ah hs2;clear hs2 hl p0 p2;have p0:w2.cell? ⟨B1,0,none⟩=some (.int .i64 xn):=HS2.o.cell 0;obtain⟨w5,hrun,hs5,_⟩:=HS2.o.ay.nj (t:= 211) Tryz.underlying3 Tryz.underlying211 xn (by omega) (.agg #[]) (by unfold maxLen;omega);rw[xR] at hs5;have HS5:=ah hs5.bo;have HFb:=ah (HFa.o w2 HS2.o.right.right);have HCb:=ah (HCa.o w2 HS2.o.right.right);clear hs5;rcases HX with ⟨hx1,rfl⟩ | ⟨q,hx1,rfl⟩
      .rw[hx1] at HFb;have HN3:Hid (S.may add drop=T):=by unfold Hid;rw[HN2.o];rfl
       go_wp2_with (first | (go_at_call 103;(with_reducible refine HFb.o.mono ?_);rintro e wx ⟨rfl,rfl⟩) | (go_at_call 97;(with_reducible refine HCb.o.mono ?_);rintro e wx ⟨rfl,rfl⟩));go_roundw
       .refine⟨k+1,n+1,hkn,by omega,by push_cast;rfl,?_,?_⟩
        .rw[HSn.o];exact HS5.o
        .rw[<-HM2.o,HN3.o,HT.o]
       .simp[intOf];omega
      .rw[hx1] at HFb
       cases C
       .have HR:Hid (S.may add drop=false):=by unfold Hid;rw[HN2.o];rfl
        go_wp2_with (first | (go_at_call 103;(with_reducible refine HFb.o.mono ?_);rintro e wx ⟨rfl,rfl⟩) | (go_at_call 97;(with_reducible refine HCb.o.mono ?_);rintro e wx ⟨rfl,rfl⟩));go_ret;exact⟨by rw[HR.o];rfl,HS2.o.right.right⟩
       .have HN3:Hid (S.may add drop=T):=by unfold Hid;rw[HN2.o];rfl
        go_wp2_with (first | (go_at_call 103;(with_reducible refine HFb.o.mono ?_);rintro e wx ⟨rfl,rfl⟩) | (go_at_call 97;(with_reducible refine HCb.o.mono ?_);rintro e wx ⟨rfl,rfl⟩));go_roundw
        .refine⟨k+1,n+1,hkn,by omega,by push_cast;rfl,?_,?_⟩
         .rw[HSn.o];exact HS5.o
         .rw[<-HM2.o,HN3.o,HT.o]
        .simp[intOf];omega
     .simp only[if_true,Option.getD_some,Option.isSome_some] at hl;have HR:Hid (S.may add drop=false):=by unfold Hid;rw[HN2.o];rfl
      go_wp2_with fail;go_ret;exact⟨by rw[HR.o];rfl,(HS1.o.aD _).right.right⟩
    .have hk2:¬ (k:Int)<add.length:=by omega
     have HT:Hid (S.may add drop=true):=by
      unfold Hid;rw[HM2.o,HD.o.2,List.drop_eq_nil_of_le (by omega)];rfl
     go_wp2_with fail;go_ret;exact⟨by rw[HT.o];rfl,HD.o.1.right⟩
end
def JK (p q:Fl):Prop:=p.num<q.num
theorem rG: ∀ {l m:List Fl},l.Perm m->l.Pairwise JK->m.Pairwise JK->l=m
 | [],m,h,_,_=>by rw[List.nil_perm.1 h]
 | x::l,[],h,_,_=>by cases List.perm_nil.1 h
 | x::l,y::m,h,hl,hm=>by
  obtain⟨l1,l2⟩:=List.pairwise_cons.1 hl;obtain⟨m1,m2⟩:=List.pairwise_cons.1 hm;have e:x=y:=by
   rcases List.mem_cons.1 (h.mem_iff.1 (List.mem_cons_self)) with e | hx
   .exact e
   .rcases List.mem_cons.1 (h.mem_iff.2 (List.mem_cons_self)) with e | hy
    .exact e.symm
    .have a:=m1 x hx;have b:=l1 y hy;unfold JK at a b;omega
  subst e;rw[rG ((List.perm_cons x).1 h) l2 m2]
theorem Ek {D:DataW Value} {f:Int->Option Value} (hs:ri D f) {i:Int} (h:Maps.has D (.int .i64 i)=false):f i=none:=by
 cases hf:f i with
 | none=>rfl
 | some v=>
  have h2:=hs i .nil;rw[Maps.atKey_of_not_has h,hf] at h2
  cases h2
theorem GS {D:DataW Value} {f:Int->Option Value} (hs:ri D f) {x:Int} {c:Value} (h: ∀ zd,D.atKey (.int .i64 x) zd = .held c):f x=some c:=by
 have h1:=hs x .nil;rw[h] at h1
 cases hf:f x with
 | none=>rw[hf] at h1;cases h1
 | some v=>rw[hf] at h1;injection h1 with h1;rw[h1]
theorem Sat.Gi {w0 w w':World} {F:SP} {b:Nat} {o:Obj} (h:Sat w0 (Ow b o*F) w) (k:ao (One b) w w'): ∃ o',Sat w0 (Ow b o'*F) w':=
 ⟨_,h.turn k (Array.getElem?_eq_getElem (by have:=h.lt;have:=k.size;omega))⟩
def Gf (P:Program) (k:TypeId) (b r n:Nat) (D:DataW Value) (left:Lit->Bool) (cnt:Nat):SP:=fun h=> ∃ o1 o2,(Ow b o1*Ow r o2) h/\ ∃ es clock since seen c0,o1 = .map es clock/\o2 = .mapIter (some b) since seen c0/\
 Go.WideElems.Fit P k ct es clock/\es.size<=n/\D = .map ((es.toList.map (Go.WideElems.rg P k ct)).foldr DataW.insert [])/\(∀ x ∈ es.toList,x.born<since)/\(leftOf es seen).size=cnt/\
 (∀ x ∈ es.toList,left (Go.WideElems.rg P k ct x).1 = !seen.contains x.born)/\(∀ kl,left kl=true-> ∃ x ∈ es.toList,(Go.WideElems.rg P k ct x).1=kl)/\since<=c0/\since<=clock
section
variable {P:Program} {k t e:TypeId} {b r n cnt cnt':Nat} {D:DataW Value} {left left':Lit->Bool} {w0 w w':World} {F:SP}
theorem Sat.qm (h:Sat w0 (Gf P k b r n D left cnt*F) w): ∃ o1 o2,Sat w0 (Ow b o1*(Ow r o2*F)) w/\w.ranges P k ct b r n D left cnt:=by
 obtain⟨c,x,h1,a,g,h2,h3,⟨o1,o2,h4,es,clock,since,seen,c0,rfl,rfl,h5⟩,h8⟩:=h;have hs:Sat w0 (Ow b (.map es clock)*Ow r (.mapIter (some b) since seen c0)*F) w:=⟨c,x,h1,a,g,h2,h3,h4,h8⟩;have hs2:=hs.of (aB _ _ _);obtain⟨h6,h7,h9,h10,h11,h12,h13,h14,h15⟩:=h5;exact⟨_,_,hs2,es,clock,since,seen,c0,hs2.block,h6,h7,h9,hs2.ay.block,h10,h11,h12,h13,h14,h15⟩
theorem Sat.rg (h:Sat w0 (Gf P k b r n D left cnt*F) w):w.ranges P k ct b r n D left cnt:=by
 obtain⟨_,_,_,h1⟩:=h.qm;exact h1
theorem Sat.K7 {o1 o2:Obj} (h:Sat w0 (Ow b o1*(Ow r o2*F)) w) (hr:w.ranges P k ct b r n D left cnt):Sat w0 (Gf P k b r n D left cnt*F) w:=by
 obtain⟨es,clock,since,seen,c0,hb,h6,h7,h9,hi,h10,h11,h12,h13,h14,h15⟩:=hr;have e1:=h.block;rw[hb] at e1;have e2:=h.ay.block;rw[hi] at e2;injection e1 with e1
 injection e2 with e2
 subst e1;subst e2;have h':=h.of (aB _ _ _).symm;exact h'.mono fun y ⟨a,g,k1,k2,k3,k4⟩=>⟨a,g,k1,k2,⟨_,_,k3,es,clock,since,seen,c0,rfl,rfl,h6,h7,h9,h10,h11,h12,h13,h14,h15⟩,k4⟩
theorem Sat.xd {o:Obj} (h:Sat w0 (Ow b o*F) w) (hr:w'.ranges P k ct b w.heap.size n D left cnt) (hg:w.grownBy w' none) (hs:w'.heap.size=w.heap.size+1):Sat w0 (Gf P k b w.heap.size n D left cnt*F) w':=by
 have hr1:=hr;obtain⟨_,_,_,_,_,_,_,_,_,hit,_⟩:=hr1;have kc:ao No w w':=⟨hg.os,hg.tape,hg.output,hg.size,fun k hk _=>hg.block k hk (by simp)⟩;exact Sat.K7 (h.take kc (Nat.le_refl _) hit).ay hr
theorem Sat.AJ (h:Sat w0 (Gf P k b r n D left cnt*F) w) (hg:w.grownBy w' (some r)) (hr:w'.ranges P k ct b r n D left' cnt'):Sat w0 (Gf P k b r n D left' cnt'*F) w':=by
 obtain⟨o1,o2,h1,_⟩:=h.qm;obtain⟨o',h2⟩:=h1.ay.Gi ((ao.eD hg).mono fun i _ hi=>Option.some.inj hi);exact Sat.K7 h2.ay hr
theorem Sat.Jl {f:Int->Option Value} (h:Sat w0 (Gf P k b r n D left cnt*F) w) (hs:ri D f):Sat w0 (bT P k b n f*F) w:=by
 obtain⟨o1,o2,h1,es,clock,since,seen,c0,hb,h6,h7,h9,hi,_⟩:=h.qm;have h2:=h1.bo;have e1:=h2.block;rw[hb] at e1;injection e1 with e1
 subst e1;exact Sat.IJ h2 h6 h7 (h9 ▸ hs)
theorem Sat.Hf {f:Int->Option Value} (h:Sat w0 (bT P k b n f*F) w): ∃ o,Sat w0 (Ow b o*F) w/\ ∃ D,w.ownsMap P k ct b n D/\ri D f:=by
 obtain⟨es,clock,h1,h2,h3,h4⟩:=h.lB;exact⟨_,h1,_,⟨es,clock,h1.block,h2,h3,rfl⟩,h4⟩
theorem Sat.DP {f:List UInt8->Option Value} (h:Sat w0 (jb P k b n f*F) w): ∃ o,Sat w0 (Ow b o*F) w/\ ∃ D,w.ownsMap P k ct b n D/\lN D f:=by
 obtain⟨es,clock,h1,h2,h3,h4⟩:=h.jj;exact⟨_,h1,_,⟨es,clock,h1.block,h2,h3,rfl⟩,h4⟩
end
theorem Cn {D:DataW Value} {f:List UInt8->Option Value} (hs:lN D f) {i:List UInt8} (h:Maps.has D (.string i)=false):f i=none:=by
 cases hf:f i with
 | none=>rfl
 | some v=>
  have h2:=hs i .nil;rw[Maps.atKey_of_not_has h,hf] at h2
  cases h2
theorem DO {D:DataW Value} {f:List UInt8->Option Value} (hs:lN D f) {x:List UInt8} {c:Value} (h: ∀ zd,D.atKey (.string x) zd = .held c):f x=some c:=by
 have h1:=hs x .nil;rw[h] at h1
 cases hf:f x with
 | none=>rw[hf] at h1;cases h1
 | some v=>rw[hf] at h1;injection h1 with h1;rw[h1]
def FK (n:Int) (w0:World) (F:SP) (e:Ending) (w':World):Prop:=
 if 2<=n/\n<=65536 then ∃ d,e = .returned (.tuple #[.pointer (some ⟨d,0,none⟩),.int .i64 0])/\Sat w0 (af d (Dk.new n.toNat)*F) w'
 else e = .returned (.tuple #[.pointer none,.int .i64 20])/\Sat w0 F w'
theorem Bx:(Tryz.prog.info? 142).map (fun i=>(i.zero,i.size,i.bytes))=some (some (.agg #[.slice none 0 0,.bool false]),2,32):=by kernel_rfl
def jx (n:Nat):Array Value:=((List.replicate n (((none,0,[]):du),false)).flatMap iR).toArray
theorem wE (n:Nat):madeCells #[.slice none 0 0,.bool false] (n*2)=jx n:=by
 apply Array.ext';apply List.ext_getElem?;intro j;have hl:(List.replicate n (((none,0,[]):du),false)).length=n:=by simp
 have hf:=nY (f:=iR) (fun _=>rfl) (List.replicate n (((none,0,[]):du),false)) (j / 2) (j % 2);have hfl:=dv (f:=iR) (fun _=>rfl) (List.replicate n (((none,0,[]):du),false));rw[hl] at hfl;unfold jx madeCells;by_cases h:j<n*2
 .have h1:=hf (by rw[hl];omega) (by omega);rw[show j / 2*2+j % 2=j by omega] at h1;simp only[List.getElem_replicate] at h1;rw[List.toList_toArray,h1];simp[h];rcases Nat.mod_two_eq_zero_or_one j with e | e<;>rw[e]<;>rfl
 .rw[List.getElem?_eq_none (by simp;omega),List.getElem?_eq_none (by rw[hfl];omega)]
theorem yw (n:Nat) (hn:n<=65536) (W:World):(Instr.makeSlice 97 (.int .i64 (n:Int)) (.int .i64 (n:Int))).run Tryz.prog W=
 .ok (.slice (some ⟨W.heap.size,0,none⟩) n n) (W.alloc (.cells (jx n) 142)):=by
 obtain⟨i0,hi,hz0,hz1,hz2⟩:=info_parts Bx;have hr:=run_make (P:= Tryz.prog) W 97 142 i0 _ Tryz.underlying97 hi hz0 .i64 .i64 n n (by omega) (by omega) (by rw[hz2];omega) (by omega);have hc:(Value.agg #[.slice none 0 0,.bool false]).cells = #[.slice none 0 0,.bool false]:=rfl;simpa [hz1,hc,wE] using hr
theorem Hx (n:Int) (w0 w:World) (F:SP) (h:Sat w0 F w):Calls Tryz.prog 16 #[.int .i64 n] w (FK n w0 F):=by
 by_cases h1:2<=n/\n<=65536
 .obtain⟨k,rfl⟩: ∃ k:Nat,n=k:=⟨n.toNat,by omega⟩;have hmk:=yw k (by omega);have hmm:= @run_makeMap Tryz.prog;have hk1:¬ (k:Int)<2:=by omega
  have hk2:¬ (65536:Int)<k:=by omega
  have HS:=ah h;have HK:=ah h1;clear h h1;go_enter Tryz.func16, Tryz.ntmps16;go_wp2_with fail;go_ret2;unfold FK;rw[if_pos HK.o];refine⟨_,rfl,?_⟩;have h1:=(HS.o.mj ((List.replicate k (((none,0,[]):du),false)).map (·.1)++([]:List (Nat × du)).map (·.2)) (fun r hr=>by simp at hr;rw[hr.2])).ab 142 (jx k);have h2:=h1.ub (P:= Tryz.prog) (k:= 3);have h3:=h2.ab 101 #[.slice (some ⟨w.heap.size,0,none⟩) k k,.slice none 0 0,.map (some (w.alloc (.cells (jx k) 142)).heap.size),.int .i64 0,.int .i64 0,.bool false];have h4:=h3.aN 140 2;have e5:(jx k).toList.take (k*2)=(List.replicate k (((none,0,[]):du),false)).flatMap iR:=by
   unfold jx;refine List.take_of_length_le ?_;rw[dv (fun _=>rfl),List.length_replicate];exact Nat.le_refl _
  have h5:=(h4.bL).dN (n:=k) (cap:=k) (size:=2) (Nat.le_refl _) (by have:(2:Int)<=k/\(k:Int)<=65536:=HK.o;unfold maxLen;omega) (by unfold jx;rw[List.size_toArray,dv (fun _=>rfl),List.length_replicate]);rw[e5] at h5;rw[Int.toNat_natCast];have hb:(2:Int)<=k/\(k:Int)<=65536:=HK.o;refine Sat.td (D:=Dk.new k) (C:=w.heap.size) (cc:=k) (M:=(w.alloc (.cells (jx k) 142)).heap.size) (nm:=0) (vp:= .slice none 0 0) (cs:=List.replicate k (((none,0,[]):du),false)) (ps:=[]) ?_ ⟨by simp[Dk.new],rfl,?_,by simp,by simp;omega,by simp;omega⟩ (Nat.le_refl _)
  .refine Sat.of (by simpa using h5) ?_;unfold dZ;rw[List.length_replicate];show _=_*(_*(Row _ 2 _ 0 []*(bT _ _ _ _ (fun _=>none)*_)))*_;simp
   ac_rfl
  .intro x hx;simp at hx;rw[hx.2];exact⟨⟨fun _=>⟨rfl,rfl⟩,fun _=>rfl,Nat.le_refl _,by show (0:Nat)<=_;omega⟩,.inl rfl⟩
 .have HS:=ah h;have HK:=ah h1;by_cases h2:n<2
  .clear h h1;go_enter Tryz.func16, Tryz.ntmps16;go_wp2_with fail;go_ret2;unfold FK;rw[if_neg HK.o];exact⟨rfl,HS.o⟩
  .have h3:65536<n:=by omega
   clear h h1;go_enter Tryz.func16, Tryz.ntmps16;go_wp2_with fail;go_ret2;unfold FK;rw[if_neg HK.o];exact⟨rfl,HS.o⟩
end Go.Proofs.YtmbaiglpgaoogaaGreat
