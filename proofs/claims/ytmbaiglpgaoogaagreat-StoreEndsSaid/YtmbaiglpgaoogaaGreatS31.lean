/- Joined, as they were built one by one: Sto6 StpA StpB StpC StpD Sto14. -/
import Derived.Test.YtmbaiglpgaoogaaGreatS12
import Derived.Test.YtmbaiglpgaoogaaGreatS14
import Derived.Test.YtmbaiglpgaoogaaGreatS19
import Derived.Test.YtmbaiglpgaoogaaGreatS24
import Derived.Test.YtmbaiglpgaoogaaGreatS25
import Derived.Test.YtmbaiglpgaoogaaGreatS30
namespace Go.Proofs.YtmbaiglpgaoogaaGreat
open Go.RowKit
set_option linter.unusedVariables false
set_option maxRecDepth 100000
def newN (ns:List Nat):Nat:=ns.foldl (fun m n=>if n % 2=1 then max m n else m) 0
theorem newN_snoc (ns:List Nat) (n:Nat):newN (ns++[n])=if n % 2=1 then max (newN ns) n else newN ns:=by
 unfold newN;rw[List.foldl_append];rfl
theorem lie3_at {w:World} {A:Option Addr} {ls:List (Nat × Nat × Nat)} (h:RdV w A (ls.flatMap lieV)) {i:Nat} (hi:i<ls.length): ∃ b o,A=some ⟨b,o,none⟩∧
  w.cell? ⟨b,o+i*3,none⟩=some (.int .i64 (ls[i].1:Int))∧w.cell? ⟨b,o+i*3+1,none⟩=some (.int .i64 (ls[i].2.1:Int))∧w.cell? ⟨b,o+i*3+2,none⟩=some (.int .i64 (ls[i].2.2:Int)):=by
 obtain⟨b,o,e,hc⟩:=RdV.elem (f:=lieV) (k:=3) (fun _=>rfl) (by decide) h hi;refine⟨b,o,e,by simpa [lieV] using hc 0 (by decide),?_,?_⟩
 ·have:=hc 1 (by decide);rw[←Nat.add_assoc] at this;simpa [lieV] using this
 ·have:=hc 2 (by decide);rw[←Nat.add_assoc] at this;simpa [lieV] using this
section
variable {w0 w:World} {F:SP} {s d:Nat} {D:Dk} {S:Spc} {sf:Nat→Nat} {lim:Nat}
set_option maxHeartbeats 2000000 in
theorem newest_sp (hf:Calls Tryz.prog 67 #[.pointer (some ⟨s,0,none⟩)] w fun e w'=> ∃ u,e = .returned u∧Sat w0 (Row 128 3 u S.files.length ((S.files.map lieOf).flatMap lieV)*F) w') (hn: ∀ f ∈ S.files,f.num≤2147483647) (hl:S.files.length≤1000):
  Calls Tryz.prog 57 #[.pointer (some ⟨s,0,none⟩)] w fun e w'=>e = .returned (.int .i64 (newN (S.files.map (·.num)):Nat))∧Sat w0 F w':=by
 have HF:=ah hf;have HN:=ah hn;obtain⟨ls,hls⟩: ∃ ls,ls=S.files.map lieOf:=⟨_,rfl⟩;have HLs:=ah hls;have hll:ls.length=S.files.length:=by rw[hls,List.length_map]
 have HNm:Hid (S.files.map (·.num)=ls.map (·.1)):=by unfold Hid;rw[hls,List.map_map];rfl
 have HB:Hid (∀ x ∈ ls,x.1≤2147483647):=fun x hx=>by
  rw[hls] at hx;obtain⟨f,hf,rfl⟩:=List.mem_map.1 hx;exact hn f hf
 rw[←hls, ←hll] at HF;rw[HNm.out];rw[←hll] at hl;clear hf hn hls hll HLs HN HNm;go_enter Tryz.func57, Tryz.ntmps57;go_wp2_with (go_at_call 67;(with_reducible refine HF.out.mono ?_);rintro e w1 ⟨u,rfl,hs⟩;obtain⟨A,c,rfl,hle,hmx⟩:=hs.row_sl;have HS:=ah hs;clear hs hle hmx);have HRow:=ah (HS.out.row_rdvX);have HS1:=ah HS.out.right;go_loopw [3,9] (fun mv iv wr=> ∃ i m:Nat,i≤ls.length∧iv = .int .i64 (i:Int)∧mv = .int .i64 (m:Int)∧m≤2147483647∧Hid (m=newN ((ls.take i).map (·.1))∧Chg No w1 wr)) (fun _ iv _=>ls.length - (intOf iv).toNat)
 case atStart=>exact⟨0,0,by omega,rfl,rfl,by omega,rfl,Chg.refl _ _⟩
 case round=>
  obtain⟨i,m,hi,rfl,rfl,hm,HD⟩:=hrel;by_cases hlt:i<ls.length
  ·obtain⟨lb,lo,rfl,y0,y1,y2⟩:=lie3_at (HRow.out.new HD.out.2) hlt;have hb:=HB.out _ (List.getElem_mem hlt);have HNx:Hid (newN ((ls.take (i+1)).map (·.1))=if ls[i].1 % 2=1 then max m ls[i].1 else m):=by
    unfold Hid;rw[List.take_add_one,List.getElem?_eq_getElem hlt,List.map_append];show newN (_++[ls[i].1])=_;rw[newN_snoc, ←HD.out.1]
   have hii:(i:Int)<ls.length:=by omega
   generalize ls[i]=x at*
   obtain⟨n,x1,x2⟩:=x;replace y0:_=some (Value.int .i64 (n:Int)):=y0;replace y1:_=some (Value.int .i64 (x1:Int)):=y1;replace y2:_=some (Value.int .i64 (x2:Int)):=y2;replace hb:n≤2147483647:=hb;replace HNx:Hid (newN ((ls.take (i+1)).map (·.1))=if n % 2=1 then max m n else m):=HNx;have HC:=ah (HD.out.2.alloc (.cells #[.int .i64 (n:Int),.int .i64 (x1:Int),.int .i64 (x2:Int)] 128));by_cases h1:n % 2=1
   ·have HNx2:Hid (newN ((ls.take (i+1)).map (·.1))=max m n):=by unfold Hid;rw[HNx.out,if_pos h1]
    have hb1:((n:Int) % 2==1)=true:=by rw[beq_iff_eq];omega
    have hb2:((n:Int).tmod 2==1)=true:=by rw[Int.tmod_eq_emod_of_nonneg (by omega)];exact hb1
    have hmx:max (m:Int) n=((max m n:Nat):Int):=by omega
    clear h1;go_wp2_with fail;go_roundw
    ·exact⟨i+1,max m n,by omega,by push_cast;rfl,by first | rfl | rw[hmx] | (congr 1),by omega,HNx2.out.symm,HC.out⟩
    ·simp[intOf];omega
   ·have HNx2:Hid (newN ((ls.take (i+1)).map (·.1))=m):=by unfold Hid;rw[HNx.out,if_neg h1]
    have hb1:((n:Int) % 2==1)=false:=by rw[beq_eq_false_iff_ne];omega
    have hb2:((n:Int).tmod 2==1)=false:=by rw[Int.tmod_eq_emod_of_nonneg (by omega)];exact hb1
    clear h1;go_wp2_with fail;go_roundw
    ·exact⟨i+1,m,by omega,by push_cast;rfl,rfl,by omega,HNx2.out.symm,HC.out⟩
    ·simp[intOf];omega
  ·have hie:i=ls.length:=by omega
   subst hie;have HN:Hid (m=newN (ls.map (·.1))):=by have:=HD.out.1;rw[List.take_length] at this;exact this
   go_wp2_with fail;go_ret;exact⟨by rw[←HN.out];rfl,HS1.out.new HD.out.2⟩
end
def sizM (M:List Kv):Nat:=(M.map fun p=>p.1.length+p.2.length+40).sum
def packB:List Ent→List UInt8
 | []=>[]
 | e::L=>putB (buildB (e::L)).length 4++buildB (e::L)
def cutsF:Nat→List UInt8→List (List UInt8)
 | 0,_=>[]
 | n+1,b=>if b.length=0 then [] else b.take 480::cutsF n (b.drop 480)
def cutsB (b:List UInt8):List (List UInt8):=cutsF b.length b
theorem cutsF_flat: ∀ (n:Nat) (b:List UInt8),b.length≤n→(cutsF n b).flatten=b
 | 0,b,h=>by rw[List.eq_nil_of_length_eq_zero (by omega:b.length=0)];rfl
 | n+1,b,h=>by
  unfold cutsF;split
  ·rename_i h1;rw[List.eq_nil_of_length_eq_zero h1];rfl
  ·rw[List.flatten_cons,cutsF_flat n _ (by rw[List.length_drop];omega),List.take_append_drop]
theorem cutsF_len: ∀ (n:Nat) (b:List UInt8),b.length≤n→(cutsF n b).length=(b.length+479) / 480
 | 0,b,h=>by rw[show b.length=0 by omega];rfl
 | n+1,b,h=>by
  unfold cutsF;split
  ·rename_i h1;rw[h1];rfl
  ·rw[List.length_cons,cutsF_len n _ (by rw[List.length_drop];omega),List.length_drop];omega
theorem cutsF_each: ∀ (n:Nat) (b:List UInt8), ∀ p ∈ cutsF n b,p.length≤480
 | 0,b,p,h=>by cases h
 | n+1,b,p,h=>by
  unfold cutsF at h;split at h
  ·cases h
  ·rcases List.mem_cons.1 h with rfl | h
   ·rw[List.length_take];omega
   ·exact cutsF_each n _ p h
theorem cutsF_any: ∀ (n m:Nat) (b:List UInt8),b.length≤n→b.length≤m→cutsF n b=cutsF m b
 | 0,m,b,h,_=>by
  have h0:b.length=0:=by omega
  cases m with
  | zero=>rfl
  | succ m=>unfold cutsF;rw[if_pos h0]
 | n+1,0,b,_,h=>by
  have h0:b.length=0:=by omega
  unfold cutsF;rw[if_pos h0]
 | n+1,m+1,b,h1,h2=>by
  unfold cutsF;split
  ·rfl
  ·rw[cutsF_any n m _ (by rw[List.length_drop];omega) (by rw[List.length_drop];omega)]
theorem cuts_flat (b:List UInt8):(cutsB b).flatten=b:=cutsF_flat _ b (Nat.le_refl _)
theorem cuts_len (b:List UInt8):(cutsB b).length=(b.length+479) / 480:=cutsF_len _ b (Nat.le_refl _)
theorem cuts_each {b p:List UInt8} (h:p ∈ cutsB b):p.length≤480:=cutsF_each _ b p h
theorem cuts_step {b:List UInt8} (h:b.length≠0):cutsB b=b.take 480::cutsB (b.drop 480):=by
 unfold cutsB;obtain⟨n,hn⟩: ∃ n,b.length=n+1:=⟨b.length - 1,by omega⟩;rw[hn];have e:cutsF (n+1) b=b.take 480::cutsF n (b.drop 480):=by
  show (if b.length=0 then [] else b.take 480::cutsF n (b.drop 480))=_;rw[if_neg h]
 rw[e,cutsF_any n _ _ (by rw[List.length_drop];omega) (Nat.le_refl _)]
def sumE (L:List Ent):Nat:=(L.map fun e=>e.key.length+e.value.length).sum
theorem sumE_snoc (L:List Ent) (e:Ent):sumE (L++[e])=sumE L+(e.key.length+e.value.length):=by
 unfold sumE;rw[List.map_append,List.sum_append];rfl
theorem entB_le (al:List UInt8) (e:Ent):(entB al e).length≤13+(e.key.length+e.value.length):=by
 unfold entB;simp[putB_len];omega
theorem bodyB_le (L:List Ent): ∀ k,k≤L.length→(bodyB L k).length≤8+sumE (L.take k)+13*k
 | 0,_=>by simp[bodyB,markB,putB_len]
 | k+1,h=>by
  have h1:=bodyB_le L k (by omega);have h2:(entAt L k).length≤13+(L[k].key.length+L[k].value.length):=by
   unfold entAt;rw[List.getElem?_eq_getElem (by omega)];exact entB_le _ _
  rw[bodyB_succ,List.length_append,List.take_add_one,List.getElem?_eq_getElem (by omega),show (some L[k]).toList=[L[k]] from rfl,sumE_snoc];omega
theorem idxB_le (L:List Ent) (h: ∀ e ∈ L,e.key.length≤128∧e.value.length≤16384): ∀ k,(idxB L k).length≤4+133*((k+7) / 8)
 | 0=>by simp[idxB,putB_len]
 | k+1=>by
  have h1:=idxB_le L h k;rw[idxB_succ,List.length_append];by_cases h8:k % 8=0
  ·have h2:=idxAt_len L k h;have h3:(k+1+7) / 8=(k+7) / 8+1:=by omega
   rw[h3];omega
  ·have h2:(idxAt L k).length=0:=by unfold idxAt;rw[if_neg h8];rfl
   have h3:(k+7) / 8≤(k+1+7) / 8:=by omega
   omega
theorem buildB_le (L:List Ent) (h: ∀ e ∈ L,e.key.length≤128∧e.value.length≤16384):(buildB L).length≤sumE L+32*L.length+200:=by
 have h1:=bodyB_le L L.length (Nat.le_refl _);have h2:=idxB_le L h L.length;have h3:=bitsB_len L;have h4:=unlike_len L L.length;have h5:nbytes (unlike L L.length).length 10≤(10*L.length+71) / 8:=by
  unfold nbytes;omega
 rw[List.take_length] at h1;unfold buildB allB;simp only[List.length_append,putB_len];omega
theorem sizM_ents (L:List Ent):sizM (L.map pairE)=sumE L+40*L.length:=by
 induction L with
 | nil=>rfl
 | cons e L ih=>
  unfold sizM sumE at*
  rw[List.map_cons,List.map_cons,List.sum_cons,List.map_cons,List.sum_cons,ih,List.length_cons];show e.key.length+e.value.length+40+_=_;omega
theorem packB_le (L:List Ent) (h: ∀ e ∈ L,e.key.length≤128∧e.value.length≤16384):(packB L).length≤204+sizM (L.map pairE):=by
 cases L with
 | nil=>exact Nat.zero_le _
 | cons e L=>
  have h1:=buildB_le (e::L) h;rw[sizM_ents];unfold packB;rw[List.length_append,putB_len];omega
structure EntOk (e:Ent):Prop where
 key:1≤e.key.length∧e.key.length≤128
 val:e.value.length≤16384
 dead:e.dead=true→e.value.length=0
 seq:0≤e.seq∧e.seq≤1000000000
structure ImgOk (E:List Ent):Prop where
 sort:E.Pairwise fun a b=>Lib.compareBytes a.key b.key<0
 each: ∀ e ∈ E,EntOk e∧e.dead=false
theorem img_nil:ImgOk []:=⟨List.Pairwise.nil,fun e h=>by cases h⟩
theorem ImgOk.lte {E:List Ent} (h:ImgOk E):E.Pairwise LTE:=h.sort.imp fun h=>lte_iff.2 (.inl h)
theorem ImgOk.build {E:List Ent} (h:ImgOk E) (hn:E.length≤65536):buildE E=0:=by
 unfold buildE;rw[sortedB_of h.lte,if_neg (by simp),if_neg];rintro (h1 | h1)
 ·omega
 ·obtain⟨e,he,h2⟩:=List.any_eq_true.1 h1;have h3:=(h.each e he).1;have h4:mayE e=true:=mayE_iff.2 ⟨h3.key.2,h3.val,h3.dead,h3.seq.1⟩;rw[h4] at h2
  cases h2
theorem ImgOk.seq {E:List Ent} (h:ImgOk E): ∀ e ∈ E,e.seq<9223372036854775808:=fun e he=>by have:=(h.each e he).1.seq;omega
theorem ImgOk.pairs {E:List Ent} (h:ImgOk E):(E.map pairE).Pairwise kLT:=by rw[List.pairwise_map];exact h.sort
theorem live_get (s:Int) (k:List UInt8): ∀ {K:List Ent},(K.map pairE).Pairwise kLT→(∀ x ∈ K,x.dead=false)→(∀ x ∈ K,x.seq≤s)→alE k s K=getK k (K.map pairE)
 | [],_,_,_=>rfl
 | e::K,hp,hl,hm=>by
  show _=(if e.key=k then some e.value else getK k (K.map pairE));rw[List.map_cons,List.pairwise_cons] at hp;have ih2:=live_get s k hp.2 (fun x hx=>hl x (List.mem_cons_of_mem _ hx)) (fun x hx=>hm x (List.mem_cons_of_mem _ hx));by_cases hk:e.key=k
  ·rw[if_pos hk,al_yes ⟨hk,hm e List.mem_cons_self⟩];unfold livE;rw[if_neg (by rw[hl e List.mem_cons_self];simp)]
  ·rw[if_neg hk,al_no (fun h=>hk h.1),ih2]
structure MemIs (L:List Ent) (q:Nat) (M:List Kv) (t:Nat):Prop where
 sort:L.Pairwise LTE
 each: ∀ x ∈ L,EntOk x
 top: ∀ x ∈ L,x.seq≤q
 len:L.length≤t
 pairs:M.Pairwise kLT
 tells: ∀ k,alE k q L=getK k M
theorem MemIs.view {L:List Ent} {q t:Nat} {M:List Kv} (h:MemIs L q M t):viewE q L=M:=view_is h.sort h.pairs h.tells
theorem ImgOk.mem {E:List Ent} {q:Nat} (h:ImgOk E) (hq: ∀ x ∈ E,x.seq≤q):MemIs E q (E.map pairE) E.length:=
 ⟨h.lte,fun x hx=>(h.each x hx).1,hq,Nat.le_refl _,h.pairs,fun k=>live_get _ k h.pairs (fun x hx=>(h.each x hx).2) hq⟩
structure ChgOk (p:Chn):Prop where
 key:1≤p.key.length∧p.key.length≤128
 val:p.value.length≤16384
 dead:p.dead=true→p.value.length=0
theorem ChgOk.chn {p:Chn} (h:ChgOk p):ChnOk p:=⟨h.key.1,h.key.2,h.val⟩
structure BatOk (cs:List Chn):Prop where
 each: ∀ p ∈ cs,ChgOk p
 sum:(cs.map sizC).sum≤262144
theorem chk_zero {cs:List Chn}:chkB cs=0↔BatOk cs:=by
 have hK:cs.any badK=false↔ ∀ p ∈ cs,1≤p.key.length∧p.key.length≤128:=by
  rw[List.any_eq_false];refine forall_congr' fun p=>forall_congr' fun hp=>?_
  unfold badK;simp only[Bool.or_eq_true,decide_eq_true_eq];omega
 have hV:cs.any badV=false↔ ∀ p ∈ cs,p.value.length≤16384∧(p.dead=true→p.value.length=0):=by
  rw[List.any_eq_false];refine forall_congr' fun p=>forall_congr' fun hp=>?_
  unfold badV;simp only[Bool.or_eq_true,decide_eq_true_eq,Bool.and_eq_true,not_or,not_and];refine and_congr (by omega) (forall_congr' fun _=>by omega)
 unfold chkB;constructor
 ·intro h;split at h
  ·omega
  ·rename_i h1;split at h
   ·omega
   ·rename_i h2;split at h
    ·omega
    ·rename_i h3;have h1':=hK.1 (by simpa using h1);have h2':=hV.1 (by simpa using h2);exact⟨fun p hp=>⟨h1' p hp,(h2' p hp).1,(h2' p hp).2⟩,by omega⟩
 ·rintro ⟨h1,h2⟩;rw[hK.2 fun p hp=>(h1 p hp).key,hV.2 fun p hp=>⟨(h1 p hp).val,(h1 p hp).dead⟩];simp only[Bool.false_eq_true,if_false];rw[if_neg (by omega)]
theorem laiB_le {cs:List Chn} (h:BatOk cs):(laiB cs).length≤262144:=by
 have: ∀ l:List Chn,(laiB l).length≤(l.map sizC).sum:=fun l=>by
  induction l with
  | nil=>exact Nat.le_refl _
  | cons p l ih=>
   rw[laiB_cons,List.length_append,lai1_len,List.map_cons,List.sum_cons];have:sizC p=p.key.length+p.value.length+16:=rfl;omega
 exact Nat.le_trans (this cs) h.sum
theorem lastB_sub: ∀ cs:List Chn,(lastB cs).Sublist cs
 | []=>List.Sublist.refl _
 | p::cs=>by
  unfold lastB;split
  ·exact(lastB_sub cs).cons _
  ·exact(lastB_sub cs).cons_cons _
theorem insE_len (e:Ent) (L:List Ent):(insE e L).length=L.length+1:=by
 obtain⟨A,B,h1,h2,_⟩:=insE_parts e L;rw[h2,h1,List.length_append,List.length_append,List.length_cons];omega
theorem insL_len (n:Int): ∀ (ps:List Chn) (L:List Ent),(insL n ps L).length=L.length+ps.length
 | [],L=>rfl
 | p::ps,L=>by
  show (insL n ps (insE (entC n p) L)).length=_;rw[insL_len n ps,insE_len,List.length_cons];omega
theorem insE_pw {e:Ent} {L:List Ent} (h:L.Pairwise LTE) (hn: ∀ x ∈ L,¬ same1 x e):(insE e L).Pairwise LTE:=by
 have e0:=List.takeWhile_append_dropWhile (p:=fun x=>lessE x e) (l:=L);have h1:=h;rw[←e0] at h1;obtain⟨p1,p2,p3⟩:=List.pairwise_append.1 h1;have hA: ∀ x ∈ L.takeWhile (fun x=>lessE x e),LTE x e:=fun x hx=>takeW_mem (f:=fun x=>lessE x e) hx
 have hB: ∀ x ∈ L.dropWhile (fun x=>lessE x e),LTE e x:=by
  intro x hx
  cases hd:L.dropWhile (fun x=>lessE x e) with
  | nil=>rw[hd] at hx;cases hx
  | cons y T=>
   have hy:lessE y e=false:=by
    have:=List.head_dropWhile_not (p:=fun x=>lessE x e) (l:=L) (by rw[hd];simp);simp only[hd,List.head_cons] at this;exact this
   have hyL:y ∈ L:=(List.dropWhile_sublist (fun x=>lessE x e)).mem (by rw[hd];exact List.mem_cons_self);have hey:LTE e y:=by
    rcases lte_tri y e with h2 | h2 | h2
    ·have h3:lessE y e=true:=h2;rw[hy] at h3;cases h3
    ·exact h2
    ·exact absurd h2 (hn y hyL)
   rw[hd] at hx p2;rcases List.mem_cons.1 hx with rfl | hx
   ·exact hey
   ·exact lte_trans hey ((List.pairwise_cons.1 p2).1 x hx)
 unfold insE;refine List.pairwise_append.2 ⟨p1,List.pairwise_cons.2 ⟨hB,p2⟩,fun a ha b hb=>?_⟩;rcases List.mem_cons.1 hb with rfl | hb
 ·exact hA a ha
 ·exact p3 a ha b hb
theorem insL_pw {n:Int}: ∀ {ps:List Chn} {L:List Ent},(ps.Pairwise fun a b=>a.key≠b.key)→L.Pairwise LTE→(∀ p ∈ ps, ∀ x ∈ L,x.key=p.key→x.seq<n)→(insL n ps L).Pairwise LTE
 | [],L,_,h,_=>h
 | p::ps,L,hp,h,hl=>by
  obtain⟨h1,h2⟩:=List.pairwise_cons.1 hp;refine insL_pw (L:=insE (entC n p) L) h2 (insE_pw h fun x hx hs=>?_) fun q hq x hx hk=>?_
  ·have h3:=hl p List.mem_cons_self x hx hs.1;have h4:x.seq=n:=hs.2;omega
  ·rcases insE_mem.1 hx with rfl | hx
   ·exact absurd hk (h1 q hq)
   ·exact hl q (List.mem_cons_of_mem _ hq) x hx hk
def doneE (q:Nat) (cs:List Chn) (L:List Ent):List Ent:=insL ((q+1:Nat):Int) (lastB cs) L
theorem MemIs.done {L:List Ent} {q t:Nat} {M:List Kv} (h:MemIs L q M t) {cs:List Chn} (hc: ∀ p ∈ cs,ChgOk p) (hq:q+1≤1000000000):MemIs (doneE q cs L) (q+1) (putsM cs M) (t+cs.length):=by
 have hlt: ∀ x ∈ L,x.seq<((q+1:Nat):Int):=fun x hx=>by have:=h.top x hx;omega
 have hm: ∀ x ∈ doneE q cs L,x ∈ L∨ ∃ p ∈ cs,x=entC ((q+1:Nat):Int) p:=fun x hx=>by
  rcases insL_mem.1 hx with h1 | ⟨p,hp,h1⟩
  ·exact .inl h1
  ·exact .inr ⟨p,lastB_mem hp,h1⟩
 refine⟨insL_pw (lastB_once cs) h.sort (fun p _ x hx _=>hlt x hx),fun x hx=>?_,fun x hx=>?_,?_,putsM_sorted cs h.pairs,fun k=>?_⟩
 ·rcases hm x hx with h1 | ⟨p,hp,rfl⟩
  ·exact h.each x h1
  ·have h2:=hc p hp;exact⟨h2.key,h2.val,h2.dead,by show 0≤((q+1:Nat):Int)∧((q+1:Nat):Int)≤_;omega⟩
 ·rcases hm x hx with h1 | ⟨p,hp,rfl⟩
  ·have:=h.top x h1;omega
  ·exact Int.le_refl _
 ·unfold doneE;rw[insL_len];have h1:=h.len;have h2:=(lastB_sub cs).length_le;omega
 ·refine done_now (Int.le_refl _) hlt h.pairs (fun k=>?_) k;rw[←h.tells k];exact al_above (fun x hx=>by have:=h.top x hx;omega) h.top k
theorem MemIs.then {L:List Ent} {q t:Nat} {M:List Kv} (h:MemIs L q M t) (cs:List Chn) {s:Int} (hs:s≤q) (k:List UInt8):alE k s (doneE q cs L)=alE k s L:=
 done_then (by omega) (fun x hx=>by have:=h.top x hx;omega) k
def tidyE (ss:List Int) (L:List Ent):List Ent:=if 2*(thinE true ss L).length+16<L.length then thinE true ss L else L
theorem MemIs.thin {L:List Ent} {q t:Nat} {M:List Kv} (h:MemIs L q M t) (ss:List Int):MemIs (thinE true ss L) q M t:=by
 have hs:=thin_in true ss L;exact⟨thin_sorted h.sort,fun x hx=>h.each x (hs.mem hx),fun x hx=>h.top x (hs.mem hx),Nat.le_trans hs.length_le h.len,h.pairs,fun k=>by rw[thin_al h.sort (.inr h.top),h.tells]⟩
theorem MemIs.tidy {L:List Ent} {q t:Nat} {M:List Kv} (h:MemIs L q M t) (ss:List Int):MemIs (tidyE ss L) q M t:=by
 unfold tidyE;split
 ·exact h.thin ss
 ·exact h
theorem MemIs.kept {L:List Ent} {q t:Nat} {M:List Kv} (h:MemIs L q M t) {ss:List Int} {s:Int} (hs:s ∈ ss) (k:List UInt8):alE k s (tidyE ss L)=alE k s L:=by
 unfold tidyE;split
 ·exact thin_al h.sort (.inl hs)
 ·rfl
def nowE (L:List Ent):List Ent:=thinE true [] L
theorem MemIs.img {L:List Ent} {q t:Nat} {M:List Kv} (h:MemIs L q M t):ImgOk (nowE L)∧(nowE L).map pairE=M∧(nowE L).length≤t∧ ∀ x ∈ nowE L,x.seq≤q:=by
 have hs:=thin_in true [] L;refine⟨⟨thin_keys _ L (Nat.le_refl _) h.sort,fun e he=>⟨h.each e (hs.mem he),thin_live _ L (Nat.le_refl _) e he⟩⟩,?_,Nat.le_trans hs.length_le h.len,fun x hx=>h.top x (hs.mem hx)⟩;rw[←h.view];exact thin_view h.sort h.top
def mapD (E:List Ent) (bs:List (List Chn)):List Kv:=bs.foldl (fun M cs=>putsM cs M) (E.map pairE)
theorem mapD_snoc (E:List Ent) (bs:List (List Chn)) (cs:List Chn):mapD E (bs++[cs])=putsM cs (mapD E bs):=by unfold mapD;rw[List.foldl_append];rfl
section
variable {D:Dk} {S:Spc} {sf:Nat→Nat} {lim n m k:Nat} {f:Fl} {p:List UInt8}
theorem find_grow1 (k:Nat) (p:List UInt8) {x:Int} (h:S.find x=some f) (hk:f.num=k):(S.grow k p).find x=some { f with frames:=f.frames++[p] }:=by
 rw[grow_is,find_growL,h];simp[hk]
theorem apps_offG {x:Int}: ∀ (ps:List (List UInt8)) {S:Spc} {D:Dk} {f:Fl},Good D S sf lim→S.find x=some f→(∀ p ∈ ps,p.length≤480)→f.frames.length+ps.length≤f.blocks→1≤D.armed→D.armed≤ps.length→
  ∃ S' D' Dv j,Spc.appsL x ps S D=(S',D',21)∧D'.off=true∧Good Dv (S.growL f.num (ps.take j)) sf lim∧(∀ keep torn bytes,D'.crash keep torn bytes=Dv.crash keep torn bytes)∧(∀ m,Cnt D m→Cnt D' (m+ps.length))∧D'.cells.length=D.cells.length
 | [],S,D,f,hg,hf,hp,hl,h1,ha=>by
  simp at ha;omega
 | p::ps,S,D,f,hg,hf,hp,hl,h1,ha=>by
  rw[List.length_cons] at hl ha;have h:=append_cases hg x p
  cases h with
  | none h1 e=>rw[hf] at h1;cases h1
  | long f' h1 h2 e=>have:=hp p List.mem_cons_self;omega
  | full f' h1 h2 h3 e=>
   rw[hf] at h1;injection h1 with h1
   subst h1;omega
  | off f' h1 h2 h3 h4 e=>
   obtain⟨hm,_⟩:=find_mem h1;have hg2:=good_append hg hm (p:=p) (by omega) (by omega);rw[hf] at h1;injection h1 with h1
   subst h1;exact⟨_,_,D.wr (f.first+f.frames.length) (frameB f.birth f.life p),1,by rw[appsL_cons,e];exact if_neg (by simp),took_off h4,hg2,fun keep torn bytes=>took_crash _ _ _ _ _ _,fun m hm=>hm.took.mono (by rw[List.length_cons];omega),rfl⟩
  | ok f' h1 h2 h3 h4 e g=>
   rw[hf] at h1;injection h1 with h1
   subst h1;rw[e] at g;have e2:Spc.appsL x (p::ps) S D=Spc.appsL x ps (S.grow f.num p) (D.wr (f.first+f.frames.length) (frameB f.birth f.life p)):=by
    rw[appsL_cons,e];exact if_pos rfl
   obtain⟨S',D',Dv,j,i1,i2,i3,i4,i5,i6⟩:=apps_offG ps g (find_grow1 f.num p hf rfl) (fun q hq=>hp q (List.mem_cons_of_mem _ hq)) (by simp only[List.length_append,List.length_singleton];omega) (by rw[wr_armed];omega) (by rw[wr_armed];omega);refine⟨S',D',Dv,j+1,e2.trans i1,i2,?_,i4,fun m hm=>(i5 _ hm.wr).mono (by rw[List.length_cons];omega),i6⟩;rw[List.take_succ_cons];rw[growL_grow] at i3;exact i3
inductive AppsR (S:Spc) (D:Dk) (sf:Nat→Nat) (lim:Nat) (f:Fl) (ps:List (List UInt8)) (r:Spc × Dk × Int):Prop where
 | ok (D':Dk) (e:r=(S.growL f.num ps,D',0)) (g:Good D' (S.growL f.num ps) sf lim) (c: ∀ m,Cnt D m→Cnt D' (m+ps.length)) (l:D'.cells.length=D.cells.length) (a:D'.armed≤D.armed)
 | off (ha:D.armed≠0) (S':Spc) (D' Dv:Dk) (j:Nat) (e:r=(S',D',21)) (o:D'.off=true) (g:Good Dv (S.growL f.num (ps.take j)) sf lim) (cr: ∀ keep torn bytes,D'.crash keep torn bytes=Dv.crash keep torn bytes) (c: ∀ m,Cnt D m→Cnt D' (m+ps.length)) (l:D'.cells.length=D.cells.length)
theorem apps_cases (hg:Good D S sf lim) {x:Int} (hf:S.find x=some f) {ps:List (List UInt8)} (hp: ∀ p ∈ ps,p.length≤480) (hl:f.frames.length+ps.length≤f.blocks):AppsR S D sf lim f ps (Spc.appsL x ps S D):=by
 by_cases ha:D.armed=0∨ps.length<D.armed
 ·obtain⟨D',e,g,c,l,a⟩:=apps_yes ps hg hf hp hl ha;exact .ok D' e g c l (by omega)
 ·obtain⟨S',D',Dv,j,e,o,g,cr,c,l⟩:=apps_offG ps hg hf hp hl (by omega) (by omega);exact .off (by omega) S' D' Dv j e o g cr c l
theorem wapp_cases (hg:Good D S sf lim) {x:Int} (hf:S.find x=some f) {b:List UInt8} (hb:b.length≤262144) (hl:f.frames.length+needN b.length≤f.blocks):AppsR S D sf lim f (split b) (S.wapp x b D):=by
 have h1:=split_len b;have e:S.wapp x b D=Spc.appsL x (split b) S D:=by
  unfold Spc.wapp;rw[hf];simp only;rw[if_neg (by omega),if_neg (by omega)]
 rw[e];exact apps_cases hg hf (fun p hp=>split_each hp) (by omega)
end
def posA (n:Nat) (lo:Bool):Nat:=if lo=true then 2 else 2+imgN n+logN n
abbrev Xf:=Option (Nat × Nat × List (List UInt8))
def xfs (n i:Nat) (lo:Bool):Xf→List Fl
 | none=>[]
 | some x=>[⟨i+2,posA n (!lo),imgN n,x.1,x.2.1,x.2.2⟩]
def stS (slot turn n i:Nat) (lo:Bool) (a b:Nat × Nat) (IF LF:List (List UInt8)) (x:Xf):Spc:=⟨slot,turn,⟨i,posA n lo,imgN n,a.1,a.2,IF⟩::⟨i+1,posA n lo+imgN n,logN n,b.1,b.2,LF⟩::xfs n i lo x⟩
section
variable {slot turn n i:Nat} {lo:Bool} {a b:Nat × Nat} {IF LF:List (List UInt8)} {x:Xf}
theorem st_image:(stS slot turn n i lo a b IF LF x).find (i:Nat)=some ⟨i,posA n lo,imgN n,a.1,a.2,IF⟩:=by
 unfold Spc.find stS;rw[List.find?_cons];simp
theorem st_log:(stS slot turn n i lo a b IF LF x).find ((i:Int)+1)=some ⟨i+1,posA n lo+imgN n,logN n,b.1,b.2,LF⟩:=by
 unfold Spc.find stS;rw[List.find?_cons,List.find?_cons];have h1:(((i:Nat):Int)==(i:Int)+1)=false:=by rw[beq_eq_false_iff_ne];omega
 have h2:(((i+1:Nat):Int)==(i:Int)+1)=true:=by rw[beq_iff_eq];omega
 simp only[h1,h2]
theorem st_third {y:Nat × Nat × List (List UInt8)}:(stS slot turn n i lo a b IF LF (some y)).find ((i:Int)+2)=some ⟨i+2,posA n (!lo),imgN n,y.1,y.2.1,y.2.2⟩:=by
 unfold Spc.find stS xfs;rw[List.find?_cons,List.find?_cons,List.find?_cons];have h1:(((i:Nat):Int)==(i:Int)+2)=false:=by rw[beq_eq_false_iff_ne];omega
 have h2:(((i+1:Nat):Int)==(i:Int)+2)=false:=by rw[beq_eq_false_iff_ne];omega
 have h3:(((i+2:Nat):Int)==(i:Int)+2)=true:=by rw[beq_iff_eq];omega
 simp only[h1,h2,h3]
theorem st_find_no (z:Int) (h1:z≠i) (h2:z≠(i:Int)+1) (h3:x.isSome=true→z≠(i:Int)+2):(stS slot turn n i lo a b IF LF x).find z=none:=by
 unfold Spc.find stS;rw[List.find?_cons,List.find?_cons];have e1:(((i:Nat):Int)==z)=false:=by rw[beq_eq_false_iff_ne];omega
 have e2:(((i+1:Nat):Int)==z)=false:=by rw[beq_eq_false_iff_ne];omega
 simp only[e1,e2]
 cases x with
 | none=>rfl
 | some y=>
  have e3:(((i+2:Nat):Int)==z)=false:=by rw[beq_eq_false_iff_ne];have:=h3 rfl;omega
  unfold xfs;rw[List.find?_cons];simp only[e3];rfl
theorem st_grow_log (ps:List (List UInt8)):(stS slot turn n i lo a b IF LF x).growL (i+1) ps=stS slot turn n i lo a b IF (LF++ps) x:=by
 unfold Spc.growL stS
 cases x with
 | none=>simp[xfs]
 | some y=>simp[xfs]
theorem st_grow_third (y:Nat × Nat × List (List UInt8)) (ps:List (List UInt8)):(stS slot turn n i lo a b IF LF (some y)).growL (i+2) ps=stS slot turn n i lo a b IF LF (some (y.1,y.2.1,y.2.2++ps)):=by
 unfold Spc.growL stS;simp[xfs]
theorem st_few (slot turn n i:Nat) (lo:Bool) (a b:Nat × Nat) (IF LF:List (List UInt8)) (x:Xf):(stS slot turn n i lo a b IF LF x).files.length≤3:=by
 unfold stS
 cases x<;>simp[xfs]
theorem may_third (hi:2≤i∧i≤2147483000) (hI:1≤imgN n):(stS slot turn n i lo a b IF LF none).may [⟨(i:Int)+2,0,imgN n⟩] []=true:=by
 have hf:=st_find_no (slot:=slot) (turn:=turn) (n:=n) (i:=i) (lo:=lo) (a:=a) (b:=b) (IF:=IF) (LF:=LF) (x:=none) ((i:Int)+2) (by omega) (by omega) (by simp);unfold Spc.may;rw[Bool.and_eq_true];refine⟨rfl,mayAdd_iff [_] [] |>.2 ⟨fun y hy=>?_,by simp⟩⟩;rw[List.mem_singleton.1 hy];exact⟨⟨by dsimp only;omega,by dsimp only;omega,by dsimp only;omega⟩,by simp,.inl (by dsimp only;rw[hf];rfl)⟩
theorem may_swap (hi:2≤i∧i≤2147483000) (hI:1≤logN n):(stS slot turn n i lo a b IF LF x).may [⟨(i:Int)+3,0,logN n⟩] [(i:Int),(i:Int)+1]=true:=by
 have hf:=st_find_no (slot:=slot) (turn:=turn) (n:=n) (i:=i) (lo:=lo) (a:=a) (b:=b) (IF:=IF) (LF:=LF) (x:=x) ((i:Int)+3) (by omega) (by omega) (fun _=>by omega);unfold Spc.may;rw[Bool.and_eq_true];refine⟨mayDrop_iff [_,_] [] |>.2 ⟨fun z hz=>⟨?_,by simp⟩,?_⟩,mayAdd_iff [_] [] |>.2 ⟨fun y hy=>?_,by simp⟩⟩
 ·rcases List.mem_cons.1 hz with rfl | hz
  ·rw[st_image];rfl
  ·rw[List.mem_singleton.1 hz,st_log];rfl
 ·simp;omega
 ·rw[List.mem_singleton.1 hy];exact⟨⟨by dsimp only;omega,by dsimp only;omega,by dsimp only;omega⟩,by simp,.inl (by dsimp only;rw[hf];rfl)⟩
theorem may_back (y:Nat × Nat × List (List UInt8)):(stS slot turn n i lo a b IF LF (some y)).may [] [(i:Int)+2]=true:=by
 unfold Spc.may;rw[Bool.and_eq_true];refine⟨mayDrop_iff [_] [] |>.2 ⟨fun z hz=>⟨?_,by simp⟩,by simp⟩,rfl⟩;rw[List.mem_singleton.1 hz,st_third];rfl
theorem sortF2 {p q r s:Nat} (h:p≤r):sortF [(p,q),(r,s)]=[(p,q),(r,s)]:=by
 unfold sortF;simp[insF,h]
theorem sortF3 {p q r s t u:Nat} (h1:p≤r) (h2:r≤t):sortF [(p,q),(r,s),(t,u)]=[(p,q),(r,s),(t,u)]:=by
 unfold sortF;simp[insF,h1,h2]
theorem sortF3' {p q r s t u:Nat} (h1:p≤r) (h2:t<p):sortF [(p,q),(r,s),(t,u)]=[(t,u),(p,q),(r,s)]:=by
 unfold sortF;have h3:¬ r≤t:=by omega
 have h4:¬ p≤t:=by omega
 simp[insF,h1,h3,h4]
theorem add_third (hfit:2+2*imgN n+2*logN n≤n) (hI:1≤imgN n) (hL:1≤logN n):
  addX n (turn+1) [⟨(i:Int)+2,0,imgN n⟩] (stS slot turn n i lo a b IF LF none).lie ((stS slot turn n i lo a b IF LF none).files.filter fun f=> !([]:List Int).contains (f.num:Int))=some (stS slot turn n i lo a b IF LF (some (turn+1,1,[]))).files:=by
 have hF:(stS slot turn n i lo a b IF LF none).files.filter (fun f=> !([]:List Int).contains (f.num:Int))=(stS slot turn n i lo a b IF LF none).files:=by
  rw[List.filter_eq_self];simp
 have hlie:(stS slot turn n i lo a b IF LF none).lie=[(posA n lo,imgN n),(posA n lo+imgN n,logN n)]:=rfl;have hpl:placeX n ((imgN n:Nat):Int) 2 (sortF [(posA n lo,imgN n),(posA n lo+imgN n,logN n)])=(posA n (!lo),true):=by
  rw[sortF2 (by omega)]
  cases lo with
  | true=>
   show placeX n _ 2 [(2,imgN n),(2+imgN n,logN n)]=(2+imgN n+logN n,true);unfold placeX;rw[if_neg (by simp only[];omega)];unfold placeX;rw[if_neg (by simp only[];omega)];unfold placeX;rw[decide_eq_true (by simp only[];omega)]
  | false=>
   show placeX n _ 2 [(2+imgN n+logN n,imgN n),(2+imgN n+logN n+imgN n,logN n)]=(2,true);unfold placeX;rw[if_pos (by simp only[];omega)]
 rw[hF,hlie,addX_yes hpl];unfold addX;show some ((stS slot turn n i lo a b IF LF none).files++_)=_;have e:((i:Int)+2).toNat=i+2:=by omega
 simp only[e,Int.toNat_natCast];rfl
theorem add_swap (hfit:2+2*imgN n+2*logN n≤n) (hI:1≤imgN n) (hL:1≤logN n) (y:Nat × Nat × List (List UInt8)):
  addX n (turn+1) [⟨(i:Int)+3,0,logN n⟩] (stS slot turn n i lo a b IF LF (some y)).lie ((stS slot turn n i lo a b IF LF (some y)).files.filter fun f=> !([(i:Int),(i:Int)+1]:List Int).contains (f.num:Int))=some (stS slot turn n (i+2) (!lo) (y.1,y.2.1) (turn+1,1) y.2.2 [] none).files:=by
 have hF:(stS slot turn n i lo a b IF LF (some y)).files.filter (fun f=> !([(i:Int),(i:Int)+1]:List Int).contains (f.num:Int))=[⟨i+2,posA n (!lo),imgN n,y.1,y.2.1,y.2.2⟩]:=by
  unfold stS xfs;have h1:([(i:Int),(i:Int)+1]:List Int).contains ((i:Nat):Int)=true:=by simp
  have h2:([(i:Int),(i:Int)+1]:List Int).contains ((i+1:Nat):Int)=true:=by simp
  have h3:([(i:Int),(i:Int)+1]:List Int).contains ((i+2:Nat):Int)=false:=by
   rw[Bool.eq_false_iff];intro h;rw[List.contains_iff_mem] at h;rcases List.mem_cons.1 h with h | h
   ·omega
   ·have:=List.mem_singleton.1 h;omega
  rw[List.filter_cons,List.filter_cons,List.filter_cons];simp only[h1,h2,h3];rfl
 have hlie:(stS slot turn n i lo a b IF LF (some y)).lie=[(posA n lo,imgN n),(posA n lo+imgN n,logN n),(posA n (!lo),imgN n)]:=rfl;have hpl:placeX n ((logN n:Nat):Int) 2 (sortF [(posA n lo,imgN n),(posA n lo+imgN n,logN n),(posA n (!lo),imgN n)])=(posA n (!lo)+imgN n,true):=by
  cases lo with
  | true=>
   show placeX n _ 2 (sortF [(2,imgN n),(2+imgN n,logN n),(2+imgN n+logN n,imgN n)])=(2+imgN n+logN n+imgN n,true);rw[sortF3 (by omega) (by omega)];unfold placeX;rw[if_neg (by simp only[];omega)];unfold placeX;rw[if_neg (by simp only[];omega)];unfold placeX;rw[if_neg (by simp only[];omega)];unfold placeX;rw[decide_eq_true (by simp only[];omega)]
  | false=>
   show placeX n _ 2 (sortF [(2+imgN n+logN n,imgN n),(2+imgN n+logN n+imgN n,logN n),(2,imgN n)])=(2+imgN n,true);rw[sortF3' (by omega) (by omega)];unfold placeX;rw[if_neg (by simp only[];omega)];unfold placeX;rw[if_pos (by simp only[];omega)]
 rw[hF,hlie,addX_yes hpl];unfold addX;have e:((i:Int)+3).toNat=i+3:=by omega
 simp only[e,Int.toNat_natCast];rfl
theorem add_back (y:Nat × Nat × List (List UInt8)):
  addX n (turn+1) [] (stS slot turn n i lo a b IF LF (some y)).lie ((stS slot turn n i lo a b IF LF (some y)).files.filter fun f=> !([(i:Int)+2]:List Int).contains (f.num:Int))=some (stS slot turn n i lo a b IF LF none).files:=by
 unfold addX;congr 1
 unfold stS xfs;have h1:([(i:Int)+2]:List Int).contains ((i:Nat):Int)=false:=by
  rw[Bool.eq_false_iff];intro h;rw[List.contains_iff_mem] at h;have:=List.mem_singleton.1 h;omega
 have h2:([(i:Int)+2]:List Int).contains ((i+1:Nat):Int)=false:=by
  rw[Bool.eq_false_iff];intro h;rw[List.contains_iff_mem] at h;have:=List.mem_singleton.1 h;omega
 have h3:([(i:Int)+2]:List Int).contains ((i+2:Nat):Int)=true:=by simp
 rw[List.filter_cons,List.filter_cons,List.filter_cons];simp only[h1,h2,h3];rfl
theorem sortN2 {f g:Fl} (h:f.num≤g.num):sortN [f,g]=[f,g]:=by
 unfold sortN;simp[insN,h]
theorem sortN3 {f g k:Fl} (h:f.num≤g.num) (h2:g.num≤k.num):sortN [f,g,k]=[f,g,k]:=by
 unfold sortN;simp[insN,h,h2]
theorem st_sort:sortN (stS slot turn n i lo a b IF LF x).files=(stS slot turn n i lo a b IF LF x).files:=by
 cases x with
 | none=>exact sortN2 (Nat.le_succ i)
 | some y=>exact sortN3 (Nat.le_succ i) (Nat.le_succ (i+1))
end
structure Con (n t q:Nat) (E:List Ent) (bs:List (List Chn)):Prop where
 img:ImgOk E
 bats: ∀ cs ∈ bs,BatOk cs
 few:E.length+(bs.map List.length).sum≤t
 siz:sizM (mapD E bs)+400≤imgN n*480
 seqs: ∀ x ∈ E,x.seq+bs.length≤q
 bl:bs.length≤q
theorem Con.mono {n t q t' q':Nat} {E:List Ent} {bs:List (List Chn)} (h:Con n t q E bs) (ht:t≤t') (hq:q≤q'):Con n t' q' E bs:=
 ⟨h.img,h.bats,Nat.le_trans h.few ht,h.siz,fun x hx=>by have:=h.seqs x hx;omega,Nat.le_trans h.bl hq⟩
theorem Con.frames {n t q:Nat} {E:List Ent} {bs:List (List Chn)} (h:sizM (E.map pairE)+400≤imgN n*480) (hi:ImgOk E):(cutsB (packB E)).length≤imgN n:=by
 have h1:=packB_le E fun e he=>⟨(hi.each e he).1.key.2,(hi.each e he).1.val⟩
 rw[cuts_len];omega
structure Dsx (n:Nat) (D:Dk) (slot turn:Nat) (lo:Bool) (a b:Nat × Nat) (LF:List (List UInt8)) (y:Xf) (sf:Nat→Nat) (lim i:Nat) (E:List Ent) (bs:List (List Chn)) (safe:Nat):Prop where
 good:Good D (stS slot turn n i lo a b (cutsB (packB E)) LF y) sf lim
 len:D.cells.length=n
 big:64≤n
 num:2≤i∧i % 2=0
 tel:Tel LF (bs.map laiB)
 cra:Cra LF (bs.map laiB) safe (sf (i+1))
 safeI:(cutsB (packB E)).length≤sf i
 safe:safe≤bs.length
def Dsk (n:Nat) (D:Dk) (S:Spc) (sf:Nat→Nat) (lim i:Nat) (E:List Ent) (bs:List (List Chn)) (safe:Nat) (x:Bool):Prop:=
 ∃ slot turn lo a b LF y,S=stS slot turn n i lo a b (cutsB (packB E)) LF y∧y.isSome=x∧Dsx n D slot turn lo a b LF y sf lim i E bs safe
section
variable {n:Nat} {D D':Dk} {slot turn:Nat} {lo:Bool} {a b:Nat × Nat} {LF:List (List UInt8)} {y:Xf} {sf:Nat→Nat} {lim i:Nat} {E E':List Ent} {bs:List (List Chn)} {safe:Nat} {S:Spc} {cs:List Chn} {x:Bool}
theorem Dsx.dsk (h:Dsx n D slot turn lo a b LF y sf lim i E bs safe):Dsk n D (stS slot turn n i lo a b (cutsB (packB E)) LF y) sf lim i E bs safe y.isSome:=⟨slot,turn,lo,a,b,LF,y,rfl,rfl,h⟩
theorem Dsx.most (h:Dsx n D slot turn lo a b LF y sf lim i E bs safe):n≤65536:=by have:=h.good.fils.most;rw[h.len] at this;exact this
theorem Dsx.fit (h:Dsx n D slot turn lo a b LF y sf lim i E bs safe):2+2*imgN n+2*logN n≤n∧1≤logN n∧1≤imgN n:=by
 have h1:=sizes_fit h.big;have h2:=img_le h.most;omega
theorem Dsx.limUp (h:Dsx n D slot turn lo a b LF y sf lim i E bs safe) {l:Nat} (h1:lim≤l) (h2:l≤1000000000):Dsx n D slot turn lo a b LF y sf l i E bs safe:=
 ⟨good_lim h.good h1 h2,h.len,h.big,h.num,h.tel,h.cra,h.safeI,h.safe⟩
theorem Dsx.arm (h:Dsx n D slot turn lo a b LF y sf lim i E bs safe) (k:Nat):Dsx n { D with armed:=k } slot turn lo a b LF y sf lim i E bs safe:=
 ⟨good_armed h.good k,h.len,h.big,h.num,h.tel,h.cra,h.safeI,h.safe⟩
theorem lenAt_image:lenAt (stS slot turn n i lo a b (cutsB (packB E)) LF y).files i=(cutsB (packB E)).length:=by
 unfold lenAt stS;simp
theorem lenAt_log {IF:List (List UInt8)}:lenAt (stS slot turn n i lo a b IF LF y).files (i+1)=LF.length:=by
 unfold lenAt stS;rw[List.find?_cons,List.find?_cons];have h1:(i==i+1)=false:=by rw[beq_eq_false_iff_ne];omega
 have h2:(i+1==i+1)=true:=by simp
 simp only[h1,h2]
theorem lenAt_third {IF:List (List UInt8)} {z:Nat × Nat × List (List UInt8)}:lenAt (stS slot turn n i lo a b IF LF (some z)).files (i+2)=z.2.2.length:=by
 unfold lenAt stS xfs;rw[List.find?_cons,List.find?_cons,List.find?_cons];have h1:(i==i+2)=false:=by rw[beq_eq_false_iff_ne];omega
 have h2:(i+1==i+2)=false:=by rw[beq_eq_false_iff_ne];omega
 have h3:(i+2==i+2)=true:=by simp
 simp only[h1,h2,h3]
theorem st_fewer {IF:List (List UInt8)} {gs:List Fl} (h:Fewer sf (stS slot turn n i lo a b IF LF y).files gs): ∃ a' b' m m' y',gs=(stS slot turn n i lo a' b' (IF.take m) (LF.take m') y').files∧sf i≤m∧m≤IF.length∧sf (i+1)≤m'∧m'≤LF.length∧y'.isSome=y.isSome:=by
 cases y with
 | none=>
  match gs,h with
  | [f',g'],⟨⟨a1,a2,a3,a4,m,a5,a6,a7⟩,⟨b1,b2,b3,b4,m',b5,b6,b7⟩,_⟩=>
   obtain⟨fn,ff,fb,fi,fl,fr⟩:=f';obtain⟨gn,gf,gb,gi,gl,gr⟩:=g';simp only at a1 a2 a3 a4 a7 b1 b2 b3 b4 b7;subst a1;subst a2;subst a3;subst a4;subst a7;subst b1;subst b2;subst b3;subst b4;subst b7;exact⟨(a.1,fl),(b.1,gl),m,m',none,rfl,a5,a6,b5,b6,rfl⟩
 | some z=>
  match gs,h with
  | [f',g',k'],⟨⟨a1,a2,a3,a4,m,a5,a6,a7⟩,⟨b1,b2,b3,b4,m',b5,b6,b7⟩,⟨c1,c2,c3,c4,m2,c5,c6,c7⟩,_⟩=>
   obtain⟨fn,ff,fb,fi,fl,fr⟩:=f';obtain⟨gn,gf,gb,gi,gl,gr⟩:=g';obtain⟨kn,kf,kb,ki,kl,kr⟩:=k';simp only at a1 a2 a3 a4 a7 b1 b2 b3 b4 b7 c1 c2 c3 c4 c7;subst a1;subst a2;subst a3;subst a4;subst a7;subst b1;subst b2;subst b3;subst b4;subst b7;subst c1;subst c2;subst c3;subst c4;subst c7;exact⟨(a.1,fl),(b.1,gl),m,m',some (z.1,kl,z.2.2.take m2),rfl,a5,a6,b5,b6,rfl⟩
theorem found_st {V:Dk} {sl tu:Nat} {fs':List Fl} {l:Nat} (hlen:V.cells.length=n) (hbig:64≤n) (hnum:2≤i∧i % 2=0) (cra:Cra LF (bs.map laiB) safe (sf (i+1))) (safeI:(cutsB (packB E)).length≤sf i)
  (hf:Fewer sf (stS sl tu n i lo a b (cutsB (packB E)) LF y).files fs') (hg:Good V ⟨sl,tu,fs'⟩ (lenAt fs') l):
  ∃ m,safe≤m∧m≤bs.length∧ ∃ sf',Dsk n V ⟨sl,tu,fs'⟩ sf' l i E (bs.take m) m y.isSome:=by
 obtain⟨a',b',m,m',y',rfl,h1,h2,h3,h4,h5⟩:=st_fewer hf;have hm:(cutsB (packB E)).take m=cutsB (packB E):=List.take_of_length_le (by omega);rw[hm] at hg ⊢;obtain⟨r,r1,r2,r3⟩:=cra m' h3 h4;rw[List.length_map] at r2;rw[←List.map_take] at r3;have hl:(bs.take r).length=r:=by rw[List.length_take];omega
 refine⟨r,r1,r2,_,sl,tu,lo,a',b',LF.take m',y',rfl,h5,hg,hlen,hbig,hnum,r3,?_,?_,by rw[hl];exact Nat.le_refl _⟩
 ·have h6:=Cra.all r3;rw[List.length_map,hl] at h6;rw[lenAt_log (IF:=cutsB (packB E))];exact h6
 ·rw[lenAt_image];exact Nat.le_refl _
theorem Dsx.crash (h:Dsx n D slot turn lo a b LF y sf lim i E bs safe) (hlim:lim+1≤1000000000) (keep:List Bool) (torn bytes:Int):
  ∃ S',openX (D.crash keep torn bytes)=(some S',0)∧ ∃ m,safe≤m∧m≤bs.length∧ ∃ sf',Dsk n (D.crash keep torn bytes) S' sf' (lim+1) i E (bs.take m) m y.isSome:=by
 obtain⟨gs,e1,e2,e3⟩:=found_crash h.good hlim (came_crash (keep:=keep) (torn:=torn) (bytes:=bytes) h.good.fils.wf);exact⟨_,e1,found_st (by rw[crash_len];exact h.len) h.big h.num h.cra h.safeI e2 e3⟩
theorem Dsx.again (h:Dsx n D slot turn lo a b LF y sf lim i E bs safe) (hlim:lim+1≤1000000000):
  ∃ S',openX D=(some S',0)∧Dsk n D S' sf (lim+1) i E bs safe y.isSome:=by
 obtain⟨gs,e1,e2,e3⟩:=found_again h.good hlim;obtain⟨a',b',m,m',y',rfl,h1,h2,h3,h4,h5⟩:=st_fewer e2;rw[lenAt_image] at h1;rw[lenAt_log (IF:=cutsB (packB E))] at h3;have hm:(cutsB (packB E)).take m=cutsB (packB E):=List.take_of_length_le (by omega);have hm':LF.take m'=LF:=List.take_of_length_le (by omega);rw[hm,hm'] at e1 e3;exact⟨_,e1,slot,turn,lo,a',b',LF,y',rfl,h5,e3,h.len,h.big,h.num,h.tel,h.cra,h.safeI,h.safe⟩
theorem Dsx.sync (h:Dsx n D slot turn lo a b LF y sf lim i E bs safe):D.flush.2=0∧Dsx n D.flush.1 slot turn lo a b LF y (lenAt (stS slot turn n i lo a b (cutsB (packB E)) LF y).files) lim i E bs bs.length:=by
 have ho:=h.good.fils.off;refine⟨by rw[flush_on D ho],good_flush h.good,(came_flush h.good.fils.wf ho).len.trans h.len,h.big,h.num,h.tel,?_,?_,Nat.le_refl _⟩
 ·have h6:=Cra.all h.tel;rw[List.length_map] at h6;rw[lenAt_log (IF:=cutsB (packB E))];exact h6
 ·rw[lenAt_image];exact Nat.le_refl _
def CrOut (n:Nat) (D:Dk) (lim i:Nat) (E:List Ent) (bs:List (List Chn)) (safe:Nat):Prop:= ∀ keep torn bytes,
 ∃ S',openX (D.crash keep torn bytes)=(some S',0)∧ ∃ m,safe≤m∧m≤bs.length∧ ∃ sf' x,Dsk n (D.crash keep torn bytes) S' sf' lim i E (bs.take m) m x
inductive PutR (n:Nat) (D:Dk) (slot turn:Nat) (lo:Bool) (a b:Nat × Nat) (LF:List (List UInt8)) (sf:Nat→Nat) (lim i:Nat) (E:List Ent) (bs:List (List Chn)) (safe:Nat) (cs:List Chn) (r:Spc × Dk × Int):Prop where
 | no (h:logN n<LF.length+needN (laiB cs).length) (e:r=(stS slot turn n i lo a b (cutsB (packB E)) LF none,D,41))
 | ok (D':Dk) (e:r=(stS slot turn n i lo a b (cutsB (packB E)) (LF++split (laiB cs)) none,D',0)) (h:Dsx n D' slot turn lo a b (LF++split (laiB cs)) none sf lim i E (bs++[cs]) safe) (c: ∀ m,Cnt D m→Cnt D' (m+548)) (r:D'.armed≤D.armed)
 | off (ha:D.armed≠0) (S':Spc) (D':Dk) (e:r=(S',D',21)) (o:D'.off=true) (h:CrOut n D' (lim+1) i E (bs++[cs]) safe) (c: ∀ m,Cnt D m→Cnt D' (m+548)) (l:D'.cells.length=n)
theorem Dsx.put (h:Dsx n D slot turn lo a b LF none sf lim i E bs safe) (hlim:lim+1≤1000000000) (hc:BatOk cs):PutR n D slot turn lo a b LF sf lim i E bs safe cs ((stS slot turn n i lo a b (cutsB (packB E)) LF none).wapp ((i:Int)+1) (laiB cs) D):=by
 have hb:=laiB_le hc;have hsp:=split_len (laiB cs);have hnd:=needN_le (laiB cs).length;by_cases hr:logN n<LF.length+needN (laiB cs).length
 ·exact .no hr (wapp_no st_log hb hr)
 ·have hmp:(bs++[cs]).map laiB=bs.map laiB++[laiB cs]:=by simp
  have hcr:Cra (LF++split (laiB cs)) ((bs++[cs]).map laiB) safe (sf (i+1)):=by
   rw[hmp];exact h.cra.put h.tel (by rw[List.length_map];exact h.safe) hb
  have hs:safe≤(bs++[cs]).length:=by rw[List.length_append];have:=h.safe;omega
  have ha:=wapp_cases (b:=laiB cs) h.good st_log hb (show LF.length+needN (laiB cs).length≤logN n by omega)
  cases ha with
  | ok D' e g c l r=>
   have e2:=st_grow_log (slot:=slot) (turn:=turn) (n:=n) (i:=i) (lo:=lo) (a:=a) (b:=b) (IF:=cutsB (packB E)) (LF:=LF) (x:=none) (split (laiB cs));simp only at e g;rw[e2] at e g;refine .ok D' e ⟨g,l.trans h.len,h.big,h.num,?_,hcr,h.safeI,hs⟩ (fun m hm=>(c m hm).mono (by omega)) r;rw[hmp];exact h.tel.put hb
  | off ha S' D' Dv j e o g cr c l=>
   have e2:=st_grow_log (slot:=slot) (turn:=turn) (n:=n) (i:=i) (lo:=lo) (a:=a) (b:=b) (IF:=cutsB (packB E)) (LF:=LF) (x:=none) ((split (laiB cs)).take j);simp only at g;rw[e2] at g;refine .off ha S' D' e o (fun keep torn bytes=>?_) (fun m hm=>(c m hm).mono (by omega)) (l.trans h.len);obtain⟨gs,f1,f2,f3⟩:=found_crash g hlim (came_crash (keep:=keep) (torn:=torn) (bytes:=bytes) g.fils.wf);obtain⟨m,m1,m2,sf',m3⟩:=found_st (bs:=bs++[cs]) (safe:=safe) (by rw[←cr,crash_len,l];exact h.len) h.big h.num (Cra.sub (j:=j) hcr) h.safeI f2 f3;exact⟨_,by rw[cr];exact f1,m,m1,m2,sf',_,by rw[cr];exact m3⟩
end
section
variable {D:Dk} {S:Spc} {sf:Nat→Nat} {lim:Nat} {add:List Fi} {drop:List Int} {fs:List Fl}
inductive SwA (S:Spc) (D:Dk) (sf:Nat→Nat) (lim:Nat) (add:List Fi) (fs:List Fl) (r:Spc × Dk × Int):Prop where
 | ok (D':Dk) (e:r=(⟨1 - S.slot,S.turn+1,fs⟩,D',0)) (g:Good D' ⟨1 - S.slot,S.turn+1,fs⟩ (lenAt fs) (lim+1)) (c: ∀ m,Cnt D m→Cnt D' (m+1)) (l:D'.cells.length=D.cells.length) (a:D'.armed≤D.armed)
 | off (ha:D.armed≠0) (D':Dk) (e:r=(S,D',21)) (o:D'.off=true) (c: ∀ m,Cnt D m→Cnt D' (m+1)) (l:D'.cells.length=D.cells.length)
  (f: ∀ keep torn bytes,(∃ fs',openX (D'.crash keep torn bytes)=(some ⟨S.slot,S.turn,fs'⟩,0)∧Fewer sf S.files fs'∧Good (D'.crash keep torn bytes) ⟨S.slot,S.turn,fs'⟩ (lenAt fs') (lim+1))∨
   (∃ fs',openX (D'.crash keep torn bytes)=(some ⟨1 - S.slot,S.turn+1,fs'⟩,0)∧Fewer (fun num=>if (num:Int) ∈ add.map (·.num) then 0 else sf num) fs fs'∧Good (D'.crash keep torn bytes) ⟨1 - S.slot,S.turn+1,fs'⟩ (lenAt fs') (lim+2)))
theorem sw_any (hg:Good D S sf lim) (hlim:lim+2≤1000000000) (hm:S.may add drop=true) (hc:(S.files.length:Int)+add.length - drop.length≤24)
  (hx:addX D.cells.length (S.turn+1) add S.lie (S.files.filter fun f=> !drop.contains (f.num:Int))=some fs) (hs:sortN fs=fs):SwA S D sf lim add fs (S.switch add drop D):=by
 have h:=switch_cases hg (by omega) add drop
 cases h with
 | no h1 e=>rw[hm] at h1;cases h1
 | many h1 h2 e=>omega
 | full h1 h2 h3 e=>rw[hx] at h3;cases h3
 | off fs' h1 h2 h3 h4 hn e=>
  rw[hx] at h3;injection h3 with h3
  subst h3;rw[hs] at hn e;refine .off (by omega) _ e (took_off h4) (fun m hm=>hm.took) rfl fun keep torn bytes=>?_
  have hcm:Came (D.wr (1 - S.slot) (sealB (S.turn+1) (fs.map Fl.hd))) ((D.took (1 - S.slot) (sealB (S.turn+1) (fs.map Fl.hd))).crash keep torn bytes):=by
   rw[took_crash];exact came_crash (wr_wf hg.fils.wf (by have:=hg.fils.two;omega) (sealB_len (by rw[List.length_map];exact hn.ok.count)))
  exact found_head hg hn hlim hcm
 | ok fs' h1 h2 h3 h4 hn e g=>
  rw[hx] at h3;injection h3 with h3
  subst h3;rw[hs] at hn e g;rw[e] at g;have hl:(sealB (S.turn+1) (fs.map Fl.hd)).length=512:=sealB_len (by rw[List.length_map];exact hn.ok.count);have hwf:WfD (D.wr (1 - S.slot) (sealB (S.turn+1) (fs.map Fl.hd))):=wr_wf hg.fils.wf (by have:=hg.fils.two;omega) hl;exact .ok _ e g (fun n hn=>hn.wr.flush rfl) (came_flush hwf rfl).len (by rw[flush_armed rfl];exact Nat.sub_le _ _)
end
section
variable {n:Nat} {D D':Dk} {slot turn:Nat} {lo:Bool} {a b:Nat × Nat} {LF:List (List UInt8)} {y:Xf} {sf:Nat→Nat} {lim i:Nat} {E E':List Ent} {bs:List (List Chn)} {safe:Nat} {S:Spc} {cs:List Chn} {x:Bool}
theorem CrOut.up {l l':Nat} (h:CrOut n D l i E bs safe) (h1:l≤l') (h2:l'≤1000000000):CrOut n D l' i E bs safe:=fun keep torn bytes=>by
 obtain⟨S',e,m,m1,m2,sf',x,slot,turn,lo,a,b,LF,y,e1,e2,e3⟩:=h keep torn bytes;exact⟨S',e,m,m1,m2,sf',x,slot,turn,lo,a,b,LF,y,e1,e2,e3.limUp h1 h2⟩
inductive Sw1R (n:Nat) (D:Dk) (slot turn:Nat) (lo:Bool) (a b:Nat × Nat) (LF:List (List UInt8)) (lim i:Nat) (E:List Ent) (bs:List (List Chn)) (r:Spc × Dk × Int):Prop where
 | ok (D':Dk) (sf':Nat→Nat) (e:r=(stS (1 - slot) (turn+1) n i lo a b (cutsB (packB E)) LF (some (turn+1,1,[])),D',0)) (h:Dsx n D' (1 - slot) (turn+1) lo a b LF (some (turn+1,1,[])) sf' (lim+1) i E bs bs.length) (c: ∀ m,Cnt D m→Cnt D' (m+1)) (r:D'.armed≤D.armed)
 | off (ha:D.armed≠0) (S':Spc) (D':Dk) (e:r=(S',D',21)) (o:D'.off=true) (h:CrOut n D' (lim+2) i E bs bs.length) (c: ∀ m,Cnt D m→Cnt D' (m+1)) (l:D'.cells.length=n)
theorem Dsx.sw1 (h:Dsx n D slot turn lo a b LF none sf lim i E bs bs.length) (hlim:lim+2≤1000000000) (hi:i≤2147483000):
  Sw1R n D slot turn lo a b LF lim i E bs ((stS slot turn n i lo a b (cutsB (packB E)) LF none).switch [⟨(i:Int)+2,0,imgN n⟩] [] D):=by
 obtain⟨f1,f2,f3⟩:=h.fit;have hsw:=sw_any (add:=[⟨(i:Int)+2,0,imgN n⟩]) (drop:=[]) h.good hlim (may_third ⟨h.num.1,hi⟩ f3) (by have:=st_few slot turn n i lo a b (cutsB (packB E)) LF none;show ((stS slot turn n i lo a b (cutsB (packB E)) LF none).files.length:Int)+1 - 0≤24;omega) (by rw[h.len];exact add_third f1 f3 f2) st_sort
 cases hsw with
 | ok D' e g c l ar=>
  have e':(stS slot turn n i lo a b (cutsB (packB E)) LF none).switch [⟨(i:Int)+2,0,imgN n⟩] [] D=(stS (1 - slot) (turn+1) n i lo a b (cutsB (packB E)) LF (some (turn+1,1,[])),D',0):=e;have g':Good D' (stS (1 - slot) (turn+1) n i lo a b (cutsB (packB E)) LF (some (turn+1,1,[]))) (lenAt (stS (1 - slot) (turn+1) n i lo a b (cutsB (packB E)) LF (some (turn+1,1,[]))).files) (lim+1):=g;have h6:=Cra.all h.tel;rw[List.length_map] at h6;refine .ok D' _ e' ⟨g',l.trans h.len,h.big,h.num,h.tel,?_,?_,Nat.le_refl _⟩ c ar
  ·rw[lenAt_log (IF:=cutsB (packB E))];exact h6
  ·rw[lenAt_image];exact Nat.le_refl _
 | off ha D' e o c l f=>
  refine .off ha _ D' e o (fun keep torn bytes=>?_) c (l.trans h.len);have hcl:(D'.crash keep torn bytes).cells.length=n:=by rw[crash_len,l];exact h.len
  rcases f keep torn bytes with ⟨fs',o1,o2,o3⟩ | ⟨fs',o1,o2,o3⟩
  ·obtain⟨m,m1,m2,sf',m3⟩:=found_st hcl h.big h.num h.cra h.safeI o2 (good_lim o3 (by omega) (by omega:lim+2≤1000000000));exact⟨_,o1,m,m1,m2,sf',_,m3⟩
  ·have o2':Fewer (fun num=>if ((num:Nat):Int) ∈ [(i:Int)+2] then 0 else sf num) (stS (1 - slot) (turn+1) n i lo a b (cutsB (packB E)) LF (some (turn+1,1,[]))).files fs':=o2;obtain⟨m,m1,m2,sf',m3⟩:=found_st (sl:=1 - slot) (tu:=turn+1) (y:=some (turn+1,1,[])) hcl h.big h.num (by
    show Cra LF _ _ (if ((i+1:Nat):Int) ∈ [(i:Int)+2] then 0 else sf (i+1));rw[if_neg (by intro h;have:=List.mem_singleton.1 h;omega)];exact h.cra) (by
    show _≤(if ((i:Nat):Int) ∈ [(i:Int)+2] then 0 else sf i);rw[if_neg (by intro h;have:=List.mem_singleton.1 h;omega)];exact h.safeI) o2' o3
   exact⟨_,o1,m,m1,m2,sf',_,m3⟩
inductive FillR (n:Nat) (D:Dk) (slot turn:Nat) (lo:Bool) (a b:Nat × Nat) (LF:List (List UInt8)) (u v:Nat) (lim i:Nat) (E:List Ent) (bs:List (List Chn)) (ps:List (List UInt8)) (r:Spc × Dk × Int):Prop where
 | ok (D':Dk) (sf':Nat→Nat) (e:r=(stS slot turn n i lo a b (cutsB (packB E)) LF (some (u,v,ps)),D',0)) (h:Dsx n D' slot turn lo a b LF (some (u,v,ps)) sf' lim i E bs bs.length) (c: ∀ m,Cnt D m→Cnt D' (m+ps.length)) (r:D'.armed≤D.armed)
 | off (ha:D.armed≠0) (S':Spc) (D':Dk) (e:r=(S',D',21)) (o:D'.off=true) (h:CrOut n D' (lim+1) i E bs bs.length) (c: ∀ m,Cnt D m→Cnt D' (m+ps.length)) (l:D'.cells.length=n)
theorem Dsx.fill {u v:Nat} (h:Dsx n D slot turn lo a b LF (some (u,v,[])) sf lim i E bs bs.length) (hlim:lim+1≤1000000000) {ps:List (List UInt8)} (hp: ∀ p ∈ ps,p.length≤480) (hl:ps.length≤imgN n):
  FillR n D slot turn lo a b LF u v lim i E bs ps (Spc.appsL ((i:Int)+2) ps (stS slot turn n i lo a b (cutsB (packB E)) LF (some (u,v,[]))) D):=by
 have ha:=apps_cases h.good st_third hp (show 0+ps.length≤imgN n by omega)
 cases ha with
 | ok D' e g c l r=>
  simp only at e g;rw[st_grow_third (u,v,[]) ps] at e g;exact .ok D' sf e ⟨g,l.trans h.len,h.big,h.num,h.tel,h.cra,h.safeI,h.safe⟩ c r
 | off ha S' D' Dv j e o g cr c l=>
  simp only at g;rw[st_grow_third (u,v,[]) (ps.take j)] at g;refine .off ha S' D' e o (fun keep torn bytes=>?_) c (l.trans h.len);obtain⟨gs,f1,f2,f3⟩:=found_crash g hlim (came_crash (keep:=keep) (torn:=torn) (bytes:=bytes) g.fils.wf);obtain⟨m,m1,m2,sf',m3⟩:=found_st (by rw[←cr,crash_len,l];exact h.len) h.big h.num h.cra h.safeI f2 f3;exact⟨_,by rw[cr];exact f1,m,m1,m2,sf',_,by rw[cr];exact m3⟩
inductive Sw2R (n:Nat) (D:Dk) (slot turn:Nat) (lo:Bool) (a b:Nat × Nat) (LF:List (List UInt8)) (u v:Nat) (lim i:Nat) (E E':List Ent) (bs:List (List Chn)) (r:Spc × Dk × Int):Prop where
 | ok (D':Dk) (sf':Nat→Nat) (e:r=(stS (1 - slot) (turn+1) n (i+2) (!lo) (u,v) (turn+1,1) (cutsB (packB E')) [] none,D',0)) (h:Dsx n D' (1 - slot) (turn+1) (!lo) (u,v) (turn+1,1) [] none sf' (lim+1) (i+2) E' [] 0) (c: ∀ m,Cnt D m→Cnt D' (m+1)) (r:D'.armed≤D.armed)
 | off (ha:D.armed≠0) (S':Spc) (D':Dk) (e:r=(S',D',21)) (o:D'.off=true) (h: ∀ keep torn bytes, ∃ S',openX (D'.crash keep torn bytes)=(some S',0)∧ ∃ sf',((∃ x,Dsk n (D'.crash keep torn bytes) S' sf' (lim+2) i E bs bs.length x)∨Dsk n (D'.crash keep torn bytes) S' sf' (lim+2) (i+2) E' [] 0 false)) (c: ∀ m,Cnt D m→Cnt D' (m+1)) (l:D'.cells.length=n)
theorem Dsx.sw2 {u v:Nat} (h:Dsx n D slot turn lo a b LF (some (u,v,cutsB (packB E'))) sf lim i E bs bs.length) (hsf:(cutsB (packB E')).length≤sf (i+2)) (hlim:lim+2≤1000000000) (hi:i≤2147483000):
  Sw2R n D slot turn lo a b LF u v lim i E E' bs ((stS slot turn n i lo a b (cutsB (packB E)) LF (some (u,v,cutsB (packB E')))).switch [⟨(i:Int)+3,0,logN n⟩] [(i:Int),(i:Int)+1] D):=by
 obtain⟨f1,f2,f3⟩:=h.fit;have hsw:=sw_any (add:=[⟨(i:Int)+3,0,logN n⟩]) (drop:=[(i:Int),(i:Int)+1]) h.good hlim (may_swap ⟨h.num.1,hi⟩ f2) (by have:=st_few slot turn n i lo a b (cutsB (packB E)) LF (some (u,v,cutsB (packB E')));simp only[List.length_cons,List.length_nil];omega) (by rw[h.len];exact add_swap f1 f3 f2 _) st_sort
 cases hsw with
 | ok D' e g c l ar=>
  have e':(stS slot turn n i lo a b (cutsB (packB E)) LF (some (u,v,cutsB (packB E')))).switch [⟨(i:Int)+3,0,logN n⟩] [(i:Int),(i:Int)+1] D=(stS (1 - slot) (turn+1) n (i+2) (!lo) (u,v) (turn+1,1) (cutsB (packB E')) [] none,D',0):=e;have g':Good D' (stS (1 - slot) (turn+1) n (i+2) (!lo) (u,v) (turn+1,1) (cutsB (packB E')) [] none) (lenAt (stS (1 - slot) (turn+1) n (i+2) (!lo) (u,v) (turn+1,1) (cutsB (packB E')) [] none).files) (lim+1):=g;have h6:=Cra.all Tel.nil;refine .ok D' _ e' ⟨g',l.trans h.len,h.big,by have:=h.num;omega,Tel.nil,?_,?_,Nat.le_refl _⟩ c ar
  ·rw[lenAt_log (IF:=cutsB (packB E'))];exact h6
  ·rw[lenAt_image];exact Nat.le_refl _
 | off ha D' e o c l f=>
  refine .off ha _ D' e o (fun keep torn bytes=>?_) c (l.trans h.len);have hcl:(D'.crash keep torn bytes).cells.length=n:=by rw[crash_len,l];exact h.len
  rcases f keep torn bytes with ⟨fs',o1,o2,o3⟩ | ⟨fs',o1,o2,o3⟩
  ·obtain⟨m,m1,m2,sf',m3⟩:=found_st hcl h.big h.num h.cra h.safeI o2 (good_lim o3 (by omega) (by omega:lim+2≤1000000000));have hm:m=bs.length:=by omega
   subst hm;rw[List.take_length] at m3;exact⟨_,o1,sf',.inl ⟨_,m3⟩⟩
  ·have o2':Fewer (fun num=>if ((num:Nat):Int) ∈ [(i:Int)+3] then 0 else sf num) (stS (1 - slot) (turn+1) n (i+2) (!lo) (u,v) (turn+1,1) (cutsB (packB E')) [] none).files fs':=o2;obtain⟨m,m1,m2,sf',m3⟩:=found_st (sl:=1 - slot) (tu:=turn+1) (bs:=[]) (safe:=0) hcl h.big (by have:=h.num;omega) (by
    show Cra [] _ _ (if ((i+2+1:Nat):Int) ∈ [(i:Int)+3] then 0 else sf (i+2+1));rw[if_pos (by rw[List.mem_singleton];omega)];exact Cra.all Tel.nil) (by
    show _≤(if ((i+2:Nat):Int) ∈ [(i:Int)+3] then 0 else sf (i+2));rw[if_neg (by intro h;have:=List.mem_singleton.1 h;omega)];exact hsf) o2' o3
   have hm:m=0:=by simpa using m2
   subst hm;exact⟨_,o1,sf',.inr m3⟩
theorem few24 {q:Nat} (h:q≤3):(q:Int)+(([]:List Fi).length:Nat) - ((1:Nat):Int)≤24:=by
 rw[List.length_nil];omega
inductive BackR (n:Nat) (D:Dk) (slot turn:Nat) (lo:Bool) (a b:Nat × Nat) (LF:List (List UInt8)) (lim i:Nat) (E:List Ent) (bs:List (List Chn)) (r:Spc × Dk × Int):Prop where
 | ok (D':Dk) (sf':Nat→Nat) (e:r=(stS (1 - slot) (turn+1) n i lo a b (cutsB (packB E)) LF none,D',0)) (h:Dsx n D' (1 - slot) (turn+1) lo a b LF none sf' (lim+1) i E bs bs.length) (c: ∀ m,Cnt D m→Cnt D' (m+1)) (r:D'.armed≤D.armed)
 | off (ha:D.armed≠0) (S':Spc) (D':Dk) (e:r=(S',D',21)) (o:D'.off=true) (h:CrOut n D' (lim+2) i E bs bs.length) (c: ∀ m,Cnt D m→Cnt D' (m+1)) (l:D'.cells.length=n)
theorem Dsx.back {z:Nat × Nat × List (List UInt8)} (h:Dsx n D slot turn lo a b LF (some z) sf lim i E bs bs.length) (hlim:lim+2≤1000000000):
  BackR n D slot turn lo a b LF lim i E bs ((stS slot turn n i lo a b (cutsB (packB E)) LF (some z)).switch [] [(i:Int)+2] D):=by
 obtain⟨f1,f2,f3⟩:=h.fit;have hm:=may_back (slot:=slot) (turn:=turn) (n:=n) (i:=i) (lo:=lo) (a:=a) (b:=b) (IF:=cutsB (packB E)) (LF:=LF) z;have hx:=add_back (slot:=slot) (turn:=turn) (n:=n) (i:=i) (lo:=lo) (a:=a) (b:=b) (IF:=cutsB (packB E)) (LF:=LF) z;have hso:=st_sort (slot:=slot) (turn:=turn) (n:=n) (i:=i) (lo:=lo) (a:=a) (b:=b) (IF:=cutsB (packB E)) (LF:=LF) (x:=none);have hfw:((stS slot turn n i lo a b (cutsB (packB E)) LF (some z)).files.length:Int)+(([]:List Fi).length:Nat) - (([(i:Int)+2]:List Int).length:Nat)≤24:=by
  rw[show ([(i:Int)+2]:List Int).length=1 from rfl];exact few24 (st_few slot turn n i lo a b (cutsB (packB E)) LF (some z))
 have hsw:=sw_any (add:=[]) (drop:=[(i:Int)+2]) (fs:=(stS slot turn n i lo a b (cutsB (packB E)) LF none).files) h.good hlim hm hfw (by rw[h.len];exact hx) hso
 cases hsw with
 | ok D' e g c l ar=>
  have e':(stS slot turn n i lo a b (cutsB (packB E)) LF (some z)).switch [] [(i:Int)+2] D=(stS (1 - slot) (turn+1) n i lo a b (cutsB (packB E)) LF none,D',0):=e;have g':Good D' (stS (1 - slot) (turn+1) n i lo a b (cutsB (packB E)) LF none) (lenAt (stS (1 - slot) (turn+1) n i lo a b (cutsB (packB E)) LF none).files) (lim+1):=g;have h6:=Cra.all h.tel;rw[List.length_map] at h6;refine .ok D' _ e' ⟨g',l.trans h.len,h.big,h.num,h.tel,?_,?_,Nat.le_refl _⟩ c ar
  ·rw[lenAt_log (IF:=cutsB (packB E))];exact h6
  ·rw[lenAt_image];exact Nat.le_refl _
 | off ha D' e o c l f=>
  refine .off ha _ D' e o (fun keep torn bytes=>?_) c (l.trans h.len);have hcl:(D'.crash keep torn bytes).cells.length=n:=by rw[crash_len,l];exact h.len
  rcases f keep torn bytes with ⟨fs',o1,o2,o3⟩ | ⟨fs',o1,o2,o3⟩
  ·obtain⟨m,m1,m2,sf',m3⟩:=found_st hcl h.big h.num h.cra h.safeI o2 (good_lim o3 (by omega) (by omega:lim+2≤1000000000));exact⟨_,o1,m,m1,m2,sf',_,m3⟩
  ·have o2':Fewer (fun num=>if ((num:Nat):Int) ∈ ([]:List Int) then 0 else sf num) (stS (1 - slot) (turn+1) n i lo a b (cutsB (packB E)) LF none).files fs':=o2;obtain⟨m,m1,m2,sf',m3⟩:=found_st (sl:=1 - slot) (tu:=turn+1) hcl h.big h.num (by
    show Cra LF _ _ (if ((i+1:Nat):Int) ∈ ([]:List Int) then 0 else sf (i+1));rw[if_neg (by simp)];exact h.cra) (by
    show _≤(if ((i:Nat):Int) ∈ ([]:List Int) then 0 else sf i);rw[if_neg (by simp)];exact h.safeI) o2' o3
   exact⟨_,o1,m,m1,m2,sf',_,m3⟩
def fmS1 (sl tu n:Nat):Spc:=⟨sl,tu,[⟨2,2,imgN n,tu,1,[]⟩]⟩
theorem fm_one (hg:Good D ⟨slot,turn,[]⟩ sf lim) (hl:D.cells.length=n) (hn:64≤n∧n≤65536) (hlim:lim+2≤1000000000) (ha:D.armed=0):
  ∃ D',(Spc.mk slot turn []).switch [⟨2,0,imgN n⟩] [] D=(fmS1 (1 - slot) (turn+1) n,D',0)∧Good D' (fmS1 (1 - slot) (turn+1) n) (lenAt (fmS1 (1 - slot) (turn+1) n).files) (lim+1)∧(∀ m,Cnt D m→Cnt D' (m+1))∧D'.cells.length=n∧D'.armed=0:=by
 have h1:=sizes_fit hn.1;have h2:=img_le hn.2;have hfind: ∀ x,(Spc.mk slot turn []).find x=none:=fun x=>rfl
 have h3:(1:Int)≤imgN n:=by omega
 have hmay:(Spc.mk slot turn []).may [⟨2,0,imgN n⟩] []=true:=by
  simp[Spc.may,Spc.mayDrop,Spc.mayAdd,hfind,h3]
 have hsw:=sw_any (add:=[⟨2,0,imgN n⟩]) (drop:=[]) (fs:=(fmS1 (1 - slot) (turn+1) n).files) hg hlim hmay (by show (0:Int)+1 - 0≤24;decide) (by
  show addX _ (turn+1) [⟨2,0,imgN n⟩] [] []=_;have hpl:placeX D.cells.length ((imgN n:Nat):Int) 2 (sortF [])=(2,true):=by
   show (2,decide (((imgN n:Nat):Int)≤(D.cells.length:Int) - 2))=_;rw[decide_eq_true (by omega)]
  rw[addX_yes hpl];unfold addX;simp only[Int.toNat_natCast];rfl) rfl
 cases hsw with
 | ok D' e g c l ar=>exact⟨D',e,g,c,l.trans hl,by omega⟩
 | off ha2 D' e o c l f=>exact absurd ha ha2
theorem fm_two {a1 a2:Nat} (hg:Good D ⟨slot,turn,[⟨2,2,imgN n,a1,a2,[]⟩]⟩ sf lim) (hl:D.cells.length=n) (hn:64≤n∧n≤65536) (hlim:lim+2≤1000000000) (ha:D.armed=0):
  ∃ D' sf',(Spc.mk slot turn [⟨2,2,imgN n,a1,a2,[]⟩]).switch [⟨3,0,logN n⟩] [] D=(stS (1 - slot) (turn+1) n 2 true (a1,a2) (turn+1,1) (cutsB (packB [])) [] none,D',0)∧Dsx n D' (1 - slot) (turn+1) true (a1,a2) (turn+1,1) [] none sf' (lim+1) 2 [] [] 0∧(∀ m,Cnt D m→Cnt D' (m+1))∧D'.armed=0:=by
 have h1:=sizes_fit hn.1;have h2:=img_le hn.2;have h3:(1:Int)≤logN n:=by omega
 have hfind:(Spc.mk slot turn [⟨2,2,imgN n,a1,a2,[]⟩]).find 3=none:=rfl;have hmay:(Spc.mk slot turn [⟨2,2,imgN n,a1,a2,[]⟩]).may [⟨3,0,logN n⟩] []=true:=by
  simp[Spc.may,Spc.mayDrop,Spc.mayAdd,hfind,h3]
 have hsw:=sw_any (add:=[⟨3,0,logN n⟩]) (drop:=[]) (fs:=(stS (1 - slot) (turn+1) n 2 true (a1,a2) (turn+1,1) (cutsB (packB [])) [] none).files) hg hlim hmay (by show (1:Int)+1 - 0≤24;decide) (by
  show addX _ (turn+1) [⟨3,0,logN n⟩] [(2,imgN n)] [⟨2,2,imgN n,a1,a2,[]⟩]=_;have hpl:placeX D.cells.length ((logN n:Nat):Int) 2 (sortF [(2,imgN n)])=(2+imgN n,true):=by
   show placeX _ _ 2 [(2,imgN n)]=_;unfold placeX;rw[if_neg (by simp only[];omega)];unfold placeX;rw[decide_eq_true (by simp only[];omega)]
  rw[addX_yes hpl];unfold addX;simp only[Int.toNat_natCast];rfl) (sortN2 (by show 2≤3;omega))
 cases hsw with
 | ok D' e g c l ar=>
  have g':Good D' (stS (1 - slot) (turn+1) n 2 true (a1,a2) (turn+1,1) (cutsB (packB [])) [] none) (lenAt (stS (1 - slot) (turn+1) n 2 true (a1,a2) (turn+1,1) (cutsB (packB [])) [] none).files) (lim+1):=g;refine⟨D',_,e,⟨g',l.trans hl,hn.1,by omega,Tel.nil,?_,?_,Nat.le_refl _⟩,c,by omega⟩
  ·rw[lenAt_log (IF:=cutsB (packB []))];exact Cra.all Tel.nil
  ·rw[lenAt_image];exact Nat.le_refl _
 | off ha2 D' e o c l f=>exact absurd ha ha2
theorem fm_space (hg:Good D S sf lim) (hlim:lim+2≤1000000000) (ha:D.armed=0):
  ∃ D',formatX D=(D',0)∧Good D' ⟨1 - S.slot,S.turn+1,[]⟩ (lenAt []) (lim+1)∧(∀ m,Cnt D m→Cnt D' (m+1))∧D'.cells.length=D.cells.length∧D'.armed=0:=by
 have hf:=hg.fils;have hl:=hf.cap;have hr:=readX_heads hg.heads hf.off hf.two (by omega) (by rw[List.length_map];exact hf.ok.count) (hf.ok.hdOk hf.most (by omega)) hf.ok.lies;have hn:Next D S sf [] (fun _=>0):=⟨⟨by simp,List.Pairwise.nil,List.Pairwise.nil,by simp⟩,by simp⟩;have hlen:(sealB (S.turn+1) (([]:List Fl).map Fl.hd)).length=512:=sealB_len (by simp);have hwf:WfD (D.wr (1 - S.slot) (sealB (S.turn+1) (([]:List Fl).map Fl.hd))):=wr_wf hf.wf (by have:=hf.two;omega) hlen;obtain⟨p1,p2⟩:=put_eq hg (fs:=[]) (by simp);have hp:=p2 (by omega);have e1: ∀ hs:List Fl,((Spc.mk S.slot S.turn hs).put [] D).2=(S.put [] D).2:=fun hs=>by
  unfold Spc.put;simp only;split
  ·rfl
  ·split<;>rfl
 refine⟨_,?_,good_put hg hn (by omega),fun m hm=>hm.wr.flush rfl,(came_flush hwf rfl).len,by rw[flush_armed rfl];show D.armed - 1=0;omega⟩;unfold formatX;rw[hr,if_neg (by simp)];show (((Spc.mk S.slot S.turn _).put [] D).2.1,((Spc.mk S.slot S.turn _).put [] D).2.2)=_;rw[e1,hp]
theorem fm_open (hg:Good D ⟨slot,turn,[]⟩ sf lim) (hlim:lim+1≤1000000000):openX D=(some ⟨slot,turn,[]⟩,0):=by
 obtain⟨gs,e1,e2,e3⟩:=found_again hg hlim
 match gs,e2 with
 | [],_=>exact e1
end
def fillX (x:Int) (ps:List (List UInt8)) (S:Spc) (D:Dk):Spc × Dk × Int:=
 if (Spc.appsL x ps S D).2.2=0 then ((Spc.appsL x ps S D).1,(Spc.appsL x ps S D).2.1.flush.1,(Spc.appsL x ps S D).2.1.flush.2) else Spc.appsL x ps S D
theorem cuts_last {r:List UInt8} (h0:r.length≠0) (h:r.length≤480):cutsB r=[r]:=by
 rw[cuts_step h0,List.take_of_length_le h,List.drop_eq_nil_of_le h];rfl
section
variable {w0 w:World} {F:SP} {s d n m:Nat} {D:Dk} {S:Spc} {sf:Nat→Nat} {lim:Nat} {b:List UInt8}
set_option maxHeartbeats 4000000 in
theorem fill_sp (x:Int) (A:Option Addr) (c:Nat) (hg:Good D S sf lim) (hc:Cnt D m) (hm:m+b.length≤999999000) (ha:D.armed≤9223372036854775807) (h:Sat w0 (SpaceP s d S*(Disk d D*F)) w) (hp: ∀ W,Sat w0 F W→Rd W A b) (hbc:b.length≤c) (hcm:c≤9223372036854775807):
  Calls Tryz.prog 124 #[.pointer (some ⟨s,0,none⟩),.int .i64 x,.slice A b.length c] w fun e w'=>e = .returned (.int .i64 (fillX x (cutsB b) S D).2.2)∧Sat w0 (SpaceP s d (fillX x (cutsB b) S D).1*(Disk d (fillX x (cutsB b) S D).2.1*F)) w':=by
 have HS:=ah h;have HG:=ah hg;have HC:=ah hc;have HA:=ah ha;have HP:Hid (∀ W,Sat w0 F W→Rd W A b):=hp;obtain⟨L0,hL0⟩: ∃ L0,L0=b.length:=⟨_,rfl⟩;have HL0:=ah hL0;rw[←hL0] at hm hbc;rw[←hL0];clear h hg hc ha hp hL0;go_enter Tryz.func124, Tryz.ntmps124;go_wp2_with fail;go_loopw [2] (fun sv wr=> ∃ (L c' k:Nat) (A':Option Addr),L≤c'∧c'≤9223372036854775807∧sv = .slice A' L c'∧k+L≤L0∧Hid (∃ (r:List UInt8) (S':Spc) (D':Dk),L=r.length∧Good D' S' sf lim∧Cnt D' (m+k)∧D'.armed≤9223372036854775807∧Spc.appsL x (cutsB b) S D=Spc.appsL x (cutsB r) S' D'∧(∀ W,Sat w0 F W→Rd W A' r)∧Sat w0 (SpaceP s d S'*(Disk d D'*F)) wr)) (fun sv _=>lenOf sv)
 case atStart=>exact⟨L0,c,0,A,hbc,hcm,rfl,by omega,b,S,D,HL0.out,HG.out,HC.out,HA.out,rfl,HP.out,HS.out⟩
 case round=>
  obtain⟨L,c',k,A',hlc,hcm',rfl,hk,HD⟩:=hrel;obtain⟨r,S',D',hL,hg',hc',ha',heq,hrd,hs'⟩:=HD.out;have HLr:=ah hL;by_cases h0:L=0
  ·have HR0:Hid (Spc.appsL x (cutsB b) S D=(S',D',0)):=by
    unfold Hid;rw[heq,List.eq_nil_of_length_eq_zero (by omega:r.length=0)];rfl
   have HSy:=ah (sync_sp hs' (by have:=hc'.pend;omega));subst h0;clear hL hg' hc' ha' heq hrd hs' HD;go_wp2_with (go_at_call 56;(with_reducible refine HSy.out.mono ?_);rintro e w4 ⟨rfl,hs⟩;have HS4:=ah hs;clear hs);go_ret;unfold fillX;rw[HR0.out,if_pos rfl];exact⟨rfl,HS4.out⟩
  ·by_cases h4:480<L
   ·have hl0:(0:Int)<L:=by omega
    have hmin:min (L:Int) 480=480:=by omega
    have hmn2:(480:Int)≤L:=by omega
    have hcr:=cuts_step (b:=r) (by omega);have hpl:(r.take 480).length=480:=by rw[List.length_take];omega
    obtain⟨S2,D2,r2,he⟩: ∃ S2 D2 r2,S'.append x (r.take 480) D'=(S2,D2,r2):=⟨_,_,_,rfl⟩;have hAp:=ap_at x A' c' 480 hg' hc' (by omega) ha' hs' (fun W hW=>(hrd W hW).take 480) hpl he;have hst:Spc.appsL x (cutsB b) S D=if r2=0 then Spc.appsL x (cutsB (r.drop 480)) S2 D2 else (S2,D2,r2):=by
     rw[heq,hcr,appsL_cons,he]
    have hnx:=fun h0=>app_next hg' x (r.take 480) hc' ha' (by rw[he];exact h0)
    rw[he] at hnx;have hrd2: ∀ W,Sat w0 F W→Rd W (A'.map (·.add 480)) (r.drop 480):=fun W hW=>by
     have h9:=(hrd W hW).drop (k:=480) (cap:=c') (by omega) (by omega);rw[if_neg (by omega)] at h9;exact h9
    have hdl:L - 480=(r.drop 480).length:=by rw[List.length_drop];omega
    have HAp:=ah hAp;have HSt:=ah hst;have HNx:=ah hnx;have HRd2:=ah hrd2;have HDl:=ah hdl;clear hL hg' hc' ha' heq hrd hs' HD hAp hst hnx hrd2 hdl hcr hpl he HLr;by_cases hr2:r2=0
    ·subst hr2;have HN0:=ah (HNx.out rfl);have HS0:Hid (Spc.appsL x (cutsB b) S D=Spc.appsL x (cutsB (r.drop 480)) S2 D2):=by unfold Hid;rw[HSt.out,if_pos rfl]
     clear HNx HSt;go_wp2_with (go_at_call 120;(with_reducible refine HAp.out.mono ?_);rintro e w4 ⟨rfl,hs⟩;have HS4:=ah hs;clear hs);go_roundw
     ·exact⟨L - 480,c' - 480,k+480,_,by omega,by omega,rfl,by omega,r.drop 480,S2,D2,HDl.out,HN0.out.1,HN0.out.2.1.mono (by omega),HN0.out.2.2,HS0.out,HRd2.out,HS4.out⟩
     ·simp[lenOf];omega
    ·have hr3:(r2 !=0)=true:=by rw[bne_iff_ne];exact hr2
     have HE:Hid (Spc.appsL x (cutsB b) S D=(S2,D2,r2)):=by unfold Hid;rw[HSt.out,if_neg hr2]
     go_wp2_with (go_at_call 120;(with_reducible refine HAp.out.mono ?_);rintro e w4 ⟨rfl,hs⟩;have HS4:=ah hs;clear hs);go_ret;unfold fillX;rw[HE.out,if_neg hr2];exact⟨rfl,HS4.out⟩
   ·have hl0:(0:Int)<L:=by omega
    have hmin:min (L:Int) 480=L:=by omega
    have hcr:=cuts_last (r:=r) (by omega) (by omega);obtain⟨S2,D2,r2,he⟩: ∃ S2 D2 r2,S'.append x r D'=(S2,D2,r2):=⟨_,_,_,rfl⟩;have hAp:=ap_at x A' c' L hg' hc' (by omega) ha' hs' hrd hL.symm he;have hst:Spc.appsL x (cutsB b) S D=if r2=0 then (S2,D2,0) else (S2,D2,r2):=by
     rw[heq,hcr,appsL_cons,he];rfl
    have hnx:=fun h0=>app_next hg' x r hc' ha' (by rw[he];exact h0)
    rw[he] at hnx;have HAp:=ah hAp;have HSt:=ah hst;have HNx:=ah hnx;clear hL hg' hc' ha' heq hrd hs' HD hAp hst hnx hcr he HLr;by_cases hr2:r2=0
    ·subst hr2;have HN0:=ah (HNx.out rfl);have HS0:Hid (Spc.appsL x (cutsB b) S D=(S2,D2,0)):=by unfold Hid;rw[HSt.out,if_pos rfl]
     clear HNx HSt;go_wp2_with (go_at_call 120;(with_reducible refine HAp.out.mono ?_);rintro e w4 ⟨rfl,hs⟩;have HS4:=ah hs;clear hs);go_roundw
     ·exact⟨0,c' - L,k+L,(if c'=L then A' else A'.map (·.add L)),by omega,by omega,by simp,by omega,[],S2,D2,rfl,HN0.out.1,HN0.out.2.1.mono (by omega),HN0.out.2.2,HS0.out,fun W _=>Rd.nil _ _,HS4.out⟩
     ·simp[lenOf];omega
    ·have hr3:(r2 !=0)=true:=by rw[bne_iff_ne];exact hr2
     have HE:Hid (Spc.appsL x (cutsB b) S D=(S2,D2,r2)):=by unfold Hid;rw[HSt.out,if_neg hr2]
     go_wp2_with (go_at_call 120;(with_reducible refine HAp.out.mono ?_);rintro e w4 ⟨rfl,hs⟩;have HS4:=ah hs;clear hs);go_ret;unfold fillX;rw[HE.out,if_neg hr2];exact⟨rfl,HS4.out⟩
end
end Go.Proofs.YtmbaiglpgaoogaaGreat
