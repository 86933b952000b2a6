/- Joined, as they were built one by one: TabOpenP TabLaw AppG Mrg1 Mrg2 MemBest MemG. -/
import Derived.Test.YtmbaiglpgaoogaaGreatV01
import Derived.Test.YtmbaiglpgaoogaaGreatV08
import Derived.Test.YtmbaiglpgaoogaaGreatV10
import Derived.Test.YtmbaiglpgaoogaaGreatV11
import Derived.Test.YtmbaiglpgaoogaaGreatV20
import Derived.Test.YtmbaiglpgaoogaaGreatV22
import Derived.Test.YtmbaiglpgaoogaaGreatV23
set_option maxHeartbeats 16000000
namespace Go.Proofs.YtmbaiglpgaoogaaGreat
open Go.RowKit
set_option linter.unusedVariables false
set_option maxRecDepth 100000
abbrev StP:=List Ent × List UInt8 × Bool
def aheadS (L:List Ent):List UInt8:=if L.length % 8=0 then [] else match L[L.length - 1]? with | some e=>e.key | none=>[]
def stepP (st:StP):StP:=let p:=entP (aheadS st.1) st.2.1 st.2.2;(st.1++[p.1],p.2)
def runP:Nat->StP->StP
 | 0,st=>st
 | k+1,st=>if st.2.2=true then st else runP k (stepP st)
theorem runP_short (k:Nat) {st:StP} (h:st.2.2=true):runP k st=st:=by
 cases k with
 | zero=>rfl
 | succ k=>unfold runP;rw[if_pos h]
theorem runP_step (k:Nat) {st:StP} (h:st.2.2=false):runP (k+1) st=runP k (stepP st):=by
 conv=>lhs;unfold runP
 rw[if_neg (by rw[h];simp)]
def sumOk (b:List UInt8):Bool:=decide (4<=b.length) && decide (putB (sumB (b.take (b.length - 4))) 4=b.drop (b.length - 4))
def readP (b:List UInt8):StP:=let t:=takeP 4 b false;let c:=takeP 4 t.2.1 t.2.2;runP (getN c.1) ([],c.2)
def openE (b:List UInt8):Nat:=
 if sumOk b=false then 72 else if (takeP 4 b false).1≠markB then 73 else if (readP b).2.2=true\/buildE (readP b).1≠0\/buildB (readP b).1≠b then 73 else 0
theorem takeP_cap (n:Nat) (q:List UInt8) (s:Bool) (hn:n<=8):getN (takeP n q s).1<256 ^ n:=Nat.lt_of_lt_of_le (getN_lt _) (Nat.pow_le_pow_right (by omega) (takeP_len' n q s))
theorem entP_small (al q:List UInt8) (s:Bool):(entP al q s).1.key.length<=600/\(entP al q s).1.value.length<=65536/\(entP al q s).1.seq<9223372036854775808:=by
 unfold entP;refine⟨?_,?_,?_⟩
 .simp only;split
  .simp
  .rw[List.length_append,List.length_take];have h1:=takeP_cap 1 q s (by omega);have h2:=takeP_cap 1 (takeP 1 q s).2.1 (takeP 1 q s).2.2 (by omega);have h3:=takeP_len' (getN (takeP 1 (takeP 1 q s).2.1 (takeP 1 q s).2.2).1);refine Nat.le_trans (Nat.add_le_add (Nat.min_le_left _ _) (h3 _ _)) ?_;omega
 .simp only;refine Nat.le_trans (takeP_len' _ _ _) ?_;have h2:=takeP_cap 2;exact Nat.le_of_lt (h2 _ _ (by omega))
 .simp only;rw[IntKind.wrap_i64];omega
theorem entP_len (al q:List UInt8) (s:Bool):(entP al q s).2.1.length<=q.length:=by
 unfold entP;simp only;refine Nat.le_trans (takeP_le _ _ _) (Nat.le_trans (takeP_le _ _ _) (Nat.le_trans (takeP_le _ _ _) (Nat.le_trans (takeP_le _ _ _) (Nat.le_trans (takeP_le _ _ _) (Nat.le_trans (takeP_le _ _ _) (takeP_le _ _ _))))))
theorem ownE_cap {w0 w:World} {F:SP}: ∀ {es:List En},Sat w0 (OwnE es*F) w-> ∀ e ∈ es,e.key.2.2.length<=e.key.2.1/\e.key.2.1<=maxLen
 | [],_=>by simp
 | e::es,h=>by
  have h0:Sat w0 (Row 5 1 (slv' e.key) e.key.2.2.length (e.key.2.2.map bv)*(Row 5 1 (slv' e.value) e.value.2.2.length (e.value.2.2.map bv)*OwnE es)*F) w:=h;have h1:=h0.of (show _=Row 5 1 (slv' e.key) e.key.2.2.length (e.key.2.2.map bv)*(Row 5 1 (slv' e.value) e.value.2.2.length (e.value.2.2.map bv)*(OwnE es*F)) by ac_rfl);intro x hx;rcases List.mem_cons.1 hx with rfl | hx
  .obtain⟨A,c,e1,k1,k2⟩:=h1.row_sl;unfold slv' at e1;injection e1 with e2 e3 e4
   rw[e4];exact⟨k1,k2⟩
  .exact ownE_cap h1.right.right x hx
structure TabR (w:World) (T:Nat) (es:List En):Prop where
 box: ∃ A c g h n,w.cell? ⟨T,0,none⟩=some (.slice A es.length c)/\w.cell? ⟨T,1,none⟩=some (.pointer (some ⟨g,0,none⟩))/\RdV w A (es.flatMap enV)/\es.length<=c/\c<=maxLen/\Filt w g h n n (bitsB (es.map En.ent))/\8<=n/\n<=262144
 rd:EnsR w es
 cap: ∀ e ∈ es,e.key.2.2.length<=e.key.2.1/\e.key.2.1<=maxLen
 ok:buildE (es.map En.ent)=0
theorem TabR.new {w w':World} {T:Nat} {es:List En} (h:TabR w T es) (k:Chg No w w'):TabR w' T es:=by
 obtain⟨A,c,g,h1,n,a1,a2,a3,a4,a5,a6,a7⟩:=h.box;exact⟨⟨A,c,g,h1,n,k.cell a1 id,k.cell a2 id,a3.new k,a4,a5,a6.new k,a7⟩,fun e he=>⟨(h.rd e he).1.new k,(h.rd e he).2.new k⟩,h.cap,h.ok⟩
def Opened (b:List UInt8) (w:World) (x:Ending) (w':World):Prop:=
 (openE b≠0/\x = .returned (.tuple #[.pointer none,.int .i64 (openE b:Nat)])/\Chg No w w')\/
 (openE b=0/\ ∃ T es,x = .returned (.tuple #[.pointer (some ⟨T,0,none⟩),.int .i64 0])/\es.map En.ent=(readP b).1/\TabR w' T es/\w.heap.size<=T/\Chg No w w')
theorem takeP_app {n:Nat} (a r:List UInt8) (h:a.length=n):takeP n (a++r) false=(a,r,false):=by
 subst h;rw[takeP_ok (by simp)];simp
theorem getN_one (b:UInt8):getN [b]=b.toNat:=by simp[getN]
theorem entP_entB (al:List UInt8) (e:Ent) (r:List UInt8) (hm:mayE e=true) (hs:e.seq<9223372036854775808) (hal:al.length<=128):entP al (entB al e++r) false=(e,r,false):=by
 obtain⟨h1,h2,h3,h4⟩:=mayE_iff.1 hm;have hc:=commonN_le al e.key;obtain⟨n,hn⟩: ∃ n,commonN al e.key=n:=⟨_,rfl⟩;have ht:=commonN_take al e.key;unfold entB;rw[hn] at hc ht ⊢;have e1:[UInt8.ofNat n,UInt8.ofNat (e.key.length - n)]++(putB e.seq.toNat 8++([if e.dead then 1 else 0]++(putB e.value.length 2++(e.key.drop n++e.value))))++r
   =[UInt8.ofNat n]++([UInt8.ofNat (e.key.length - n)]++(putB e.seq.toNat 8++([if e.dead then 1 else 0]++(putB e.value.length 2++(e.key.drop n++(e.value++r)))))):=by simp
 rw[e1];have b1:getN [UInt8.ofNat n]=n:=by rw[getN_one,UInt8.toNat_ofNat',Nat.mod_eq_of_lt (by omega)]
 have b2:getN [UInt8.ofNat (e.key.length - n)]=e.key.length - n:=by rw[getN_one,UInt8.toNat_ofNat',Nat.mod_eq_of_lt (by omega)]
 have b3:IntKind.i64.wrap (getN (putB e.seq.toNat 8):Int)=e.seq:=by
  rw[get_put,Nat.mod_eq_of_lt (by omega),IntKind.wrap_i64];omega
 have b4:decide (getN [if e.dead then (1:UInt8) else 0]=1)=e.dead:=by cases e.dead<;>decide
 have b5:getN (putB e.value.length 2)=e.value.length:=by rw[get_put,Nat.mod_eq_of_lt (by omega)]
 unfold entP;simp only[takeP_app _ _ (List.length_singleton),takeP_app _ _ (putB_len _ _),b1,b2,b3,b4,b5];rw[decide_eq_false (by omega)];simp only[Bool.or_false];rw[takeP_app (n:=e.key.length - n) _ _ (by simp)];simp only;rw[takeP_app (n:=e.value.length) _ _ rfl];simp only[Bool.false_eq_true,if_false];rw[ht,List.take_append_drop]
theorem aheadS_take {L:List Ent} {i:Nat} (h:i<=L.length):aheadS (L.take i)=aheadK L i:=by
 unfold aheadS aheadK;rw[List.length_take,Nat.min_eq_left h];split
 .rfl
 .rw[List.getElem?_take,if_pos (by omega)]
  cases L[i - 1]?<;>rfl
theorem ahead_short {L:List Ent} (h: ∀ e ∈ L,e.key.length<=128) (i:Nat):(aheadK L i).length<=128:=by
 unfold aheadK;split
 .simp
 .split
  .rename_i e he;exact h e (List.mem_of_getElem? he)
  .simp
theorem buildE_may {L:List Ent} (h:buildE L=0): ∀ e ∈ L,mayE e=true:=by
 intro e he;unfold buildE at h;split at h
 .cases h
 .split at h
  .cases h
  .rename_i h1
   cases hm:mayE e with
   | true=>rfl
   | false=>exact absurd (.inr (List.any_eq_true.2 ⟨e,he,by rw[hm];rfl⟩)) h1
theorem buildE_key {L:List Ent} (h:buildE L=0): ∀ e ∈ L,e.key.length<=128:=fun e he=>(mayE_iff.1 (buildE_may h e he)).1
theorem buildE_few {L:List Ent} (h:buildE L=0):L.length<=65536:=by
 unfold buildE at h;split at h
 .cases h
 .split at h
  .cases h
  .rename_i h1;rcases Nat.lt_or_ge 65536 L.length with h2 | h2
   .exact absurd (.inl h2) h1
   .exact h2
def restB (L:List Ent) (i k:Nat):List UInt8:=((List.range' i k).map (entAt L)).flatten
theorem runP_rest (L:List Ent) (r:List UInt8) (hb:buildE L=0) (hs: ∀ e ∈ L,e.seq<9223372036854775808): ∀ (k i:Nat),i+k=L.length->runP k (L.take i,restB L i k++r,false)=(L,r,false)
 | 0,i,h=>by
  have e:L.take i=L:=List.take_of_length_le (by omega);unfold runP restB;rw[e];rfl
 | k+1,i,h=>by
  have hi:i<L.length:=by omega
  have ih:=runP_rest L r hb hs k (i+1) (by omega);rw[runP_step _ rfl];have e2:restB L i (k+1)=entB (aheadK L i) L[i]++restB L (i+1) k:=by
   unfold restB;rw[List.range'_succ,List.map_cons,List.flatten_cons];congr 1
   unfold entAt;rw[List.getElem?_eq_getElem hi]
  have e3:stepP (L.take i,restB L i (k+1)++r,false)=(L.take (i+1),restB L (i+1) k++r,false):=by
   unfold stepP;simp only;rw[aheadS_take (by omega),e2,List.append_assoc,entP_entB _ _ _ (buildE_may hb _ (List.getElem_mem hi)) (hs _ (List.getElem_mem hi)) (ahead_short (buildE_key hb) i)];simp only;rw[List.take_succ_eq_append_getElem hi]
  rw[e3,ih]
theorem bodyB_rest (L:List Ent):bodyB L L.length=markB++(putB L.length 4++restB L 0 L.length):=by
 unfold bodyB restB;rw[List.range_eq_range',List.append_assoc]
theorem buildB_eq (L:List Ent): ∃ r,buildB L=markB++(putB L.length 4++(restB L 0 L.length++r)):=by
 unfold buildB allB;simp only;rw[bodyB_rest];refine⟨idxB L L.length++(putB (bitsB L).length 4++(bitsB L++(putB (markB++(putB L.length 4++restB L 0 L.length)).length 4++(putB (markB++(putB L.length 4++restB L 0 L.length)++idxB L L.length).length 4++putB (sumB (markB++(putB L.length 4++restB L 0 L.length)++idxB L L.length++putB (bitsB L).length 4++bitsB L++putB (markB++(putB L.length 4++restB L 0 L.length)).length 4++putB (markB++(putB L.length 4++restB L 0 L.length)++idxB L L.length).length 4)) 4)))),?_⟩;simp only[List.append_assoc]
theorem readP_build {L:List Ent} (hb:buildE L=0) (hs: ∀ e ∈ L,e.seq<9223372036854775808):(readP (buildB L)).1=L/\(readP (buildB L)).2.2=false:=by
 obtain⟨r,hr⟩:=buildB_eq L;have hf:=buildE_few hb;have e:readP (buildB L)=(L,r,false):=by
  rw[hr];unfold readP;simp only;rw[takeP_app (n:=4) markB _ rfl];simp only;rw[takeP_app _ _ (putB_len _ _)];simp only;rw[get_put,Nat.mod_eq_of_lt (by omega)];exact runP_rest L r hb hs L.length 0 (by omega)
 rw[e];exact⟨rfl,rfl⟩
theorem sumOk_build (L:List Ent):sumOk (buildB L)=true:=by
 unfold sumOk buildB;rw[List.length_append,putB_len,Nat.add_sub_cancel,List.take_left,List.drop_left];simp
theorem openE_build {L:List Ent} (hb:buildE L=0) (hs: ∀ e ∈ L,e.seq<9223372036854775808):openE (buildB L)=0:=by
 obtain⟨h1,h2⟩:=readP_build hb hs;unfold openE;rw[if_neg (by rw[sumOk_build];simp),if_neg,if_neg]
 .rw[h1,h2];simp[hb]
 .obtain⟨r,hr⟩:=buildB_eq L;rw[hr,takeP_app (n:=4) markB _ rfl];simp
theorem wpList_appB {w0 w:World} {F:SP} {ops:Array Oper} {o:Oper} {a:Act} {rest:List Oper} {Q:Exit->Act->World->Prop} (hgd:o.guard=none) (s x:Operand)
  (ho:o.op = .call { callee:= .builtin .append,args:= #[s,x],argTypes:= #[41, 41] })
  (A:Option Addr) (cA:Nat) (l:List UInt8) (hs:a.eval s = .slice A l.length cA) (hS:Sat w0 (Row 5 1 (.slice A l.length cA) l.length (l.map bv)*F) w)
  (B:Option Addr) (cB:Nat) (m:List UInt8) (hx:a.eval x = .slice B m.length cB) (hr:Rd w B m) (k:List UInt8) (hk:k=l++m) (hl:k.length<=140737488355328)
  (h: ∀ A' c' w',Sat w0 (Row 5 1 (.slice A' k.length c') k.length (k.map bv)*F) w'->wpList Tryz.prog ops Q rest (a.put o.dst (.slice A' k.length c')) w'):wpList Tryz.prog ops Q (o::rest) a w:=by
 subst hk;rw[List.length_append] at hl;obtain⟨j0,hj,hy0,hy1,hy2⟩:=info_parts info_u8;refine wpList_appS hgd s x 41 ho 5 j0 _ 1 1 Tryz.underlying41 hj hy0 hy1 hy2 rfl (by decide) _ l.length (l.map bv) hs w0 F hS B m.length cB (m.map bv) hx hr (by simp) (bv_one _) (by unfold maxLen;omega) (by omega) ?_;intro A' c' w' h2;have h3:=h A' c' w';rw[List.length_append,List.map_append] at h3;exact h3 h2
theorem step_appB {w0 w:World} {F:SP} {ops:Array Oper} {o:Oper} {a:Act} {K:Act->World->Prop} {Q:Exit->Act->World->Prop} {E:Prop} (hgd:o.guard=none) (s x:Operand)
  (ho:o.op = .call { callee:= .builtin .append,args:= #[s,x],argTypes:= #[41, 41] })
  (A:Option Addr) (cA:Nat) (l:List UInt8) (hs:a.eval s = .slice A l.length cA) (hS:Sat w0 (Row 5 1 (.slice A l.length cA) l.length (l.map bv)*F) w)
  (B:Option Addr) (cB:Nat) (m:List UInt8) (hx:a.eval x = .slice B m.length cB) (hr:Rd w B m) (k:List UInt8) (hk:k=l++m) (hl:k.length<=140737488355328)
  (h: ∀ A' c' w',Sat w0 (Row 5 1 (.slice A' k.length c') k.length (k.map bv)*F) w'->K (a.put o.dst (.slice A' k.length c')) w'):
  if Region.wanted o (yielded ops a.tmps)=true then Oper.wp Tryz.prog o a w K Q else E:=by
 subst hk;rw[List.length_append] at hl;obtain⟨j0,hj,hy0,hy1,hy2⟩:=info_parts info_u8;refine step_appS hgd s x 41 ho 5 j0 _ 1 1 Tryz.underlying41 hj hy0 hy1 hy2 rfl (by decide) _ l.length (l.map bv) hs w0 F hS B m.length cB (m.map bv) hx hr (by simp) (bv_one _) (by unfold maxLen;omega) (by omega) ?_;intro A' c' w' h2;have h3:=h A' c' w';rw[List.length_append,List.map_append] at h3;exact h3 h2
theorem gcopied0 (e:En) (w:World) (hr:EnR w e) (hk:e.key.2.2.length<=140737488355328) (hv:e.value.2.2.length<=140737488355328):
  Calls Tryz.prog 153 #[enA e] w (CopiedS w Emp e):=by
 have h:=Sat.start w;obtain⟨⟨kA,kc,k⟩,⟨vA,vc,v⟩,seq,dead⟩:=e;have HRk:Hid (Rd w kA k):=hr.1;have HRv:Hid (Rd w vA v):=hr.2;have hk':k.length<=140737488355328:=hk;have hv':v.length<=140737488355328:=hv;have h1:=h.allocAt (b:=w.heap.size) 120 #[.slice kA k.length kc,.slice vA v.length vc,.int .i64 seq,.bool dead] rfl;have h2:=h1.allocAt (b:=w.heap.size+1) 120 #[.slice none 0 0,.slice none 0 0,.int .i64 0,.bool false] (by simp);have hc2:Chg No w _:=((Chg.refl No w).alloc (.cells #[.slice kA k.length kc,.slice vA v.length vc,.int .i64 seq,.bool dead] 120)).alloc (.cells #[.slice none 0 0,.slice none 0 0,.int .i64 0,.bool false] 120);clear hr h h1;unfold enA;go_enter Tryz.func153, Tryz.ntmps153;go_wp2_with fail;revert h2 hc2;generalize (w.alloc _).alloc _=W;intro h2 hc2;generalize w.heap.size+1=B at*
 generalize w.heap.size=E at*
 have c0:=h2.up2.cell 0;have c1:=h2.up2.cell 1;have c2:=h2.up2.cell 2;have c3:=h2.up2.cell 3;have HS0:=ah h2;have HC0:=ah hc2;clear h2 hc2;go_region_law (first
  | (go_simp;go_at_call 104;(with_reducible refine(cloneS kA kc k HS0.o.drew (HRk.o.new HC0.o.drew) hk').mono ?_);rintro x w1 ⟨A,c,rfl,k1,hs1⟩;have HS1:=ah hs1;have HC1:=ah (HC0.o.drew.tr k1);have c0:=hs1.up3.cell 0;have c1:=hs1.up3.cell 1;have c2:=hs1.up3.cell 2;have c3:=hs1.up3.cell 3;clear hs1 k1)
  | (go_simp;go_at_call 104;(with_reducible refine(cloneS vA vc v HS1.o (HRv.o.new HC1.o) hv').mono ?_);rintro x w2 ⟨B2,d,rfl,k2,hs2⟩;have HS2:=ah hs2;have HC2:=ah (HC1.o.tr k2);have c0:=hs2.up4.cell 0;have c1:=hs2.up4.cell 1;have c2:=hs2.up4.cell 2;have c3:=hs2.up4.cell 3;have f0:=hs2.up4.frozen 0;have f1:=hs2.up4.frozen 1;clear hs2 k2))
 all_goals
  have h5:=(HS2.o.up4.set 0 (.slice A k.length c)).set 1 (.slice B2 v.length d);clear f0 f1 c0 c1 c2 c3;revert h5;generalize World.setCell _ _ _=w3;intro h5;have c0:=h5.cell 0;have c1:=h5.cell 1;have c2:=h5.cell 2;have c3:=h5.cell 3;have d0:=h5.up4.cell 0;have d1:=h5.up4.cell 1;have d2:=h5.up4.cell 2;have d3:=h5.up4.cell 3;have f0:=h5.up4.frozen 0;have f1:=h5.up4.frozen 1;have f2:=h5.up4.frozen 2;have f3:=h5.up4.frozen 3;have h6:=(((h5.up4.set 0 (.slice A k.length c)).set 1 (.slice B2 v.length d)).set 2 (.int .i64 seq)).set 3 (.bool dead);go_wp2_with fail;revert h6;generalize World.setCell _ _ _=w4;intro h6;refine bodyPost_ret (results_cell_row (p:=2) (by kernel_rfl) _ _ B 120 _ (0,0) _ rfl h6.at Tryz.underlying120 rfl (by kernel_rfl)) rfl ?_;exact⟨A,c,B2,d,rfl,h6.right.right.up2⟩
theorem gcopied_any (e:En) (w0 w:World) (F:SP) (h:Sat w0 F w) (hr:EnR w e) (hk:e.key.2.2.length<=140737488355328) (hv:e.value.2.2.length<=140737488355328):
  Calls Tryz.prog 153 #[enA e] w fun x w'=>CopiedS w0 F e x w'/\Chg No w w':=by
 refine(gcopied0 e w hr hk hv).mono ?_;rintro x w' ⟨A,c,B,d,rfl,hs⟩;exact⟨⟨A,c,B,d,rfl,(h.join hs (owned_star (owned_row _ _ _ _ _) (owned_star (owned_row _ _ _ _ _) owned_emp))).of (by rw[star_assoc,star_assoc,emp_star])⟩,hs.chg⟩
def plainG (z:Value) (n:Nat):Array Value:=(List.replicate n z).toArray
theorem made_oneG (z:Value) (n:Nat):madeCells #[z] n=plainG z n:=by
 apply Array.ext';apply List.ext_getElem?;intro j;simp[madeCells,plainG,List.getElem?_replicate];by_cases h:j<n
 .simp[h];rw[Nat.mod_one];rfl
 .simp[h]
theorem infoG_bool:(Tryz.prog.info? 4).map (fun i=>(i.zero,i.size,i.bytes))=some (some (.bool false),1,1):=by kernel_rfl
theorem gmake_bools (n:Nat) (hn:n<=1000000) (W:World):(Instr.makeSlice 34 (.int .i64 (n:Int)) (.int .i64 (n:Int))).run Tryz.prog W=
  .ok (.slice (some ⟨W.heap.size,0,none⟩) n n) (W.alloc (.cells (plainG (.bool false) n) 4)):=by
 obtain⟨i0,hi,hz0,hz1,hz2⟩:=info_parts infoG_bool;have hr:=run_make (P:= Tryz.prog) W 34 4 i0 _ Tryz.underlying34 hi hz0 .i64 .i64 n n (by omega) (by omega) (by rw[hz2];omega) (by omega);have hc:(Value.bool false).cells = #[.bool false]:=rfl;simpa [hz1,hc,made_oneG] using hr
theorem seen1_any (bl bs:Nat) (A:Option Addr) (c:Nat) (es:List En) (s:Int) (i:Nat) (w:World) (h1:w.cell? ⟨bl,0,none⟩=some (.slice A es.length c)) (h2:w.cell? ⟨bs,0,none⟩=some (.int .i64 s)) (hr:RdV w A (es.flatMap enV)) (hi:i<es.length):
  Calls Tryz.prog 186 #[.int .i64 (i:Int),.pointer (some ⟨bl,0,none⟩),.pointer (some ⟨bs,0,none⟩)] w fun x w'=>x = .returned (.bool (decide (es[i].seq<=s)))/\Chg No w w':=by
 obtain⟨lb,lo,rfl,hq⟩:=ents_at hr (by omega);obtain⟨y0,y1,y2,y3⟩:=hq i hi;have hii:(i:Int)<es.length:=by omega
 have S0:w.cell? ⟨bl,0,none⟩=some (.slice (some ⟨lb,lo,none⟩) es.length c)/\w.cell? ⟨bs,0,none⟩=some (.int .i64 s)/\w.cell? ⟨lb,lo+i*4+2,none⟩=some (.int .i64 es[i].seq):=⟨h1,h2,y2⟩;have HS:=ah S0;clear hq y0 y1 y2 y3 h1 h2 hr S0;go_enter Tryz.func186, Tryz.ntmps186;go_upto_region 1 with fail;refine wp_region_held_drew (S:=fun w'=>w'.cell? ⟨bl,0,none⟩=some (.slice (some ⟨lb,lo,none⟩) es.length c)/\w'.cell? ⟨bs,0,none⟩=some (.int .i64 s)/\w'.cell? ⟨lb,lo+i*4+2,none⟩=some (.int .i64 es[i].seq)) (by kernel_rfl) HS.o ?_;intro hS0;refine rtk 0 ?_;refine rtk 1 ?_;refine rtk 2 ?_;refine rtk 3 ?_;refine rtk 4 ?_;refine rtk 5 ?_;refine rtk 6 ?_;refine rtk 7 ?_;refine wpAnyH_done (by kernel_rfl) ?_ _;go_wp2_with fail;go_ret;exact⟨rfl,(Chg.refl No w).drew⟩
def fstS (s:Int) (es:List En):Nat:=es.findIdx fun e=>decide (e.seq<=s)
structure SeAt (w:World) (es:List En) (s:Int) (i j:Nat) (wr:World):Prop where
 lo: ∀ (m:Nat) (h:m<es.length),m<i->¬ es[m].seq<=s
 hi: ∀ (m:Nat) (h:m<es.length),j<=m->es[m].seq<=s
 chg:Chg No w wr
theorem fstS_is {s:Int} {es:List En} {k:Nat} (hk:k<=es.length) (lo: ∀ (m:Nat) (h:m<es.length),m<k->¬ es[m].seq<=s) (hi: ∀ h:k<es.length,es[k].seq<=s):fstS s es=k:=by
 unfold fstS;by_cases h:k<es.length
 .rw[List.findIdx_eq h];exact⟨by simpa using hi h,fun m hm=>by simpa using lo m (by omega) hm⟩
 .have:k=es.length:=by omega
  subst this;rw[List.findIdx_eq_length];intro x hx;obtain⟨m,hm,rfl⟩:=List.getElem_of_mem hx;simpa using lo m hm hm
theorem seenS_any (bl bs:Nat) (A:Option Addr) (c:Nat) (es:List En) (s:Int) (w:World) (h1:w.cell? ⟨bl,0,none⟩=some (.slice A es.length c)) (h2:w.cell? ⟨bs,0,none⟩=some (.int .i64 s)) (hr:RdV w A (es.flatMap enV)) (hn:es.length<=1000000)
  (hmono: ∀ (a b:Nat) (ha:a<es.length) (hb:b<es.length),a<=b->es[a].seq<=s->es[b].seq<=s):
  Calls Tryz.prog 183 #[.int .i64 (es.length:Int),.func (.func 186) #[] #[.pointer (some ⟨bl,0,none⟩),.pointer (some ⟨bs,0,none⟩)]] w fun x w'=>x = .returned (.int .i64 (fstS s es:Nat))/\Chg No w w':=by
 have H1:=ah h1;have H2:=ah h2;have HR:=ah hr;have HM:=ah hmono;clear h1 h2 hr hmono;go_enter Tryz.func183, Tryz.ntmps183;go_wp2_with fail;go_loopw [5,6] (fun iv jv wr=> ∃ i j:Nat,i<=j/\j<=es.length/\iv = .int .i64 i/\jv = .int .i64 j/\Hid (SeAt w es s i j wr)) (fun iv jv _=>((intOf jv) - (intOf iv)).toNat)
 case atStart=>exact⟨0,es.length,by omega,by omega,rfl,rfl,fun m _ h=>by omega,fun m h h2=>by omega,Chg.refl _ _⟩
 case round=>
  obtain⟨i,j,hij,hj,rfl,rfl,HD⟩:=hrel;by_cases hlt:i<j
  .obtain⟨m,hm⟩: ∃ m,m=(i+j) / 2:=⟨_,rfl⟩;have hmi:i<=m:=by omega
   have hmj:m<j:=by omega
   have hml:m<es.length:=by omega
   have hw1:IntKind.u64.wrap ((i:Int)+(j:Int))=(i:Int)+j:=by rw[IntKind.wrap_u64];omega
   have hsh:((i:Int)+j) / 2=m:=by omega
   have hw2:IntKind.i64.wrap (m:Int)=m:=by rw[IntKind.wrap_i64];omega
   have HMm:=ah hm;clear hm;obtain⟨Z,hZ⟩: ∃ Z,decide (es[m].seq<=s)=Z:=⟨_,rfl⟩;have HZ:=ah hZ;clear hZ
   cases Z
   all_goals
    go_wp2_with (go_at_call 186;refine(seen1_any bl bs A c es s m _ (HD.o.chg.cell H1.o id) (HD.o.chg.cell H2.o id) (HR.o.new HD.o.chg) hml).mono ?_;rintro x w1 ⟨rfl,k1⟩;rw[HZ.o];have HK:=ah (HD.o.chg.tr k1);clear k1);go_roundw
   .exact⟨m+1,j,by omega,by omega,by push_cast;rfl,rfl,⟨fun a ha h2 h3=>of_decide_eq_false HZ.o (HM.o a m ha hml (by omega) h3),HD.o.hi,HK.o⟩⟩
   .simp[intOf];omega
   .exact⟨i,m,by omega,by omega,rfl,rfl,⟨HD.o.lo,fun a ha h2=>HM.o m a hml ha h2 (of_decide_eq_true HZ.o),HK.o⟩⟩
   .simp[intOf];omega
  .have hij2:i=j:=by omega
   subst hij2;go_wp2_with fail;go_ret;refine⟨?_,HD.o.chg⟩;rw[fstS_is hj (fun a ha h2=>HD.o.lo a ha h2) (fun h=>HD.o.hi i h (Nat.le_refl _))];rfl
def mrkTo (es:List En) (snaps:List Int):List Bool:=snaps.foldl (fun b s=>b.set (fstS s es) true) ((List.replicate es.length false).set 0 true)
theorem mrk_len (es:List En): ∀ (snaps:List Int) (b:List Bool),(snaps.foldl (fun b s=>b.set (fstS s es) true) b).length=b.length
 | [],b=>rfl
 | s::snaps,b=>by rw[List.foldl_cons,mrk_len es snaps,List.length_set]
theorem mrkTo_len (es:List En) (snaps:List Int):(mrkTo es snaps).length=es.length:=by unfold mrkTo;rw[mrk_len,List.length_set,List.length_replicate]
theorem mrkTo_snoc (es:List En) (snaps:List Int) (s:Int):mrkTo es (snaps++[s])=(mrkTo es snaps).set (fstS s es) true:=by unfold mrkTo;rw[List.foldl_append];rfl
theorem bools_set (l:List Bool) (k:Nat) (b:Bool):(l.set k b).map Value.bool=(l.map Value.bool).set k (.bool b):=by rw[List.map_set]
section
variable {w0 w:World} {F:SP}
def SeenS (w0:World) (es:List En) (snaps:List Int) (k g:Nat) (bl:Nat) (A:Option Addr) (c:Nat) (wr:World):Prop:=Sat w0 (Row 4 1 (.slice (some ⟨g,0,none⟩) es.length es.length) es.length ((mrkTo es (snaps.take k)).map Value.bool)*(Pt bl 116 #[.slice A es.length c]*Emp)) wr
theorem seen0 (A:Option Addr) (c:Nat) (es:List En) (SA:Option Addr) (sc:Nat) (snaps:List Int) (w:World) (hr:RdV w A (es.flatMap enV)) (hs:RdV w SA (snaps.map fun x=> .int .i64 x)) (hn:1<=es.length/\es.length<=1000000) (hsn:snaps.length<=1000000)
  (hmono: ∀ (s:Int) (a b:Nat) (ha:a<es.length) (hb:b<es.length),a<=b->es[a].seq<=s->es[b].seq<=s):
  Calls Tryz.prog 152 #[.slice A es.length c,.slice SA snaps.length sc] w fun x w'=> ∃ g,x = .returned (.slice (some ⟨g,0,none⟩) es.length es.length)/\Sat w (Row 4 1 (.slice (some ⟨g,0,none⟩) es.length es.length) es.length ((mrkTo es snaps).map Value.bool)*Emp) w':=by
 have s1:=(Sat.start w).allocPt 116 #[.slice A es.length c];have HR:=ah hr;have HSn:=ah hs;have HM:=ah hmono;have HMk:=ah (fun W=>gmake_bools es.length hn.2 W);obtain⟨hn1,hn2⟩:=hn;clear hr hs hmono;have s2:=s1.allocAt (b:=w.heap.size+1) 4 (plainG (.bool false) es.length) (by simp);have s3:=s2.row_pt (n:=es.length) (cap:=es.length) (size:=1) (Nat.le_refl _) (by unfold maxLen;omega) (by unfold plainG;simp);have e3:(plainG (.bool false) es.length).toList.take (es.length*1)=(List.replicate es.length false).map Value.bool:=by unfold plainG;simp
 rw[e3] at s3;have s5:=s1.allocAt (b:=w.heap.size+1) 4 ((plainG (.bool false) es.length).setIfInBounds 0 (.bool true)) (by simp);have s4:=s5.row_pt (n:=es.length) (cap:=es.length) (size:=1) (Nat.le_refl _) (by unfold maxLen;omega) (by unfold plainG;simp);have e4:((plainG (.bool false) es.length).setIfInBounds 0 (.bool true)).toList.take (es.length*1)=((List.replicate es.length false).set 0 true).map Value.bool:=by
  unfold plainG;rw[bools_set,List.map_replicate,Nat.mul_one,Array.toList_setIfInBounds,List.take_of_length_le (by simp)]
 rw[e4] at s4;have f0:=s3.row_free 0;have c0:=s3.row_cell (j:=0) (by simp;omega);simp only[List.getElem_map,List.getElem_replicate] at c0;have q0:=HMk.o;have hne:¬ ((es.length:Int)=0):=by omega
 go_enter Tryz.func152, Tryz.ntmps152;go_upto_region 3 with fail;clear f0 c0 q0 hne s2 s3 e3 s5 e4 s1;revert s4;generalize World.alloc (World.alloc w _) _=w3;generalize w.heap.size+1=g;generalize w.heap.size=bl;intro s4;have HS4:Hid (SeenS w es snaps 0 g bl A c w3):=s4;clear s4;go_wp2_with fail;go_loopw [16] (fun iv wr=> ∃ k:Nat,k<=snaps.length/\iv = .int .i64 k/\Hid (SeenS w es snaps k g bl A c wr)) (fun iv _=>snaps.length - (intOf iv).toNat)
 case atStart=>exact⟨0,by omega,rfl,HS4.o⟩
 case round=>
  obtain⟨k,hk,rfl,HD⟩:=hrel;by_cases hlt:k<snaps.length
  .obtain⟨sb,so,rfl,hsc⟩:=(HSn.o.new (Sat.chg HD.o)).get (j:=k) (by simpa using hlt);simp only[List.getElem_map] at hsc;obtain⟨q,hq⟩: ∃ q,snaps[k]=q:=⟨_,rfl⟩;have HQe:Hid (snaps.take (k+1)=snaps.take k++[q]):=by
    unfold Hid;rw[List.take_add_one,List.getElem?_eq_getElem hlt,hq];rfl
   rw[hq] at hsc;clear hq;have s6:=Sat.allocPt HD.o 3 #[.int .i64 q];have c1:=s6.up3.cell 0;have HSe:Hid (Calls Tryz.prog 183 #[.int .i64 (es.length:Int),.func (.func 186) #[] #[.pointer (some ⟨bl,0,none⟩),.pointer (some ⟨wr.heap.size,0,none⟩)]] (wr.alloc (.cells #[.int .i64 q] 3)) fun x w'=>x = .returned (.int .i64 (fstS q es:Nat))/\Chg No (wr.alloc (.cells #[.int .i64 q] 3)) w'):=
    seenS_any bl wr.heap.size A c es q _ c1 (s6.cell 0) (HR.o.new s6.chg) hn2 (HM.o q)
   have HS6:=ah s6;have hf:fstS q es<=es.length:=List.findIdx_le_length;obtain⟨z,hz⟩: ∃ z,fstS q es=z:=⟨_,rfl⟩;have HNx:Hid (mrkTo es (snaps.take (k+1))=(mrkTo es (snaps.take k)).set z true):=by
    unfold Hid;rw[HQe.o,mrkTo_snoc,hz]
   rw[hz] at HSe hf;clear hz s6;have hml:=mrkTo_len es (snaps.take k);by_cases hzn:z<es.length
   .have hzi:(z:Int)<es.length:=by omega
    go_wp2_with (go_at_call 183;(with_reducible refine HSe.o.mono ?_);rintro x w7 ⟨rfl,k7⟩;have HS7:=ah (HS6.o.new k7);have c2:=HS7.o.up3.cell 0;have c3:=HS7.o.up2.row_cell (j:=z) (by rw[List.length_map,hml];exact hzn);have f3:=HS7.o.up2.row_free z;clear k7);have h9:=HS7.o.up2.row_setj (j:=z) (.bool true);rw[<-bools_set, <-HNx.o] at h9;go_roundw
    .exact⟨k+1,by omega,by go_num,Sat.right (A:=Pt wr.heap.size 3 #[.int .i64 q]) (h9.of (by ac_rfl))⟩
    .simp[intOf];omega
   .have hzi:¬ (z:Int)<es.length:=by omega
    have HNy:Hid ((mrkTo es (snaps.take k)).set z true=mrkTo es (snaps.take k)):=List.set_eq_of_length_le (by omega);go_wp2_with (go_at_call 183;(with_reducible refine HSe.o.mono ?_);rintro x w7 ⟨rfl,k7⟩;have HS7:=ah (HS6.o.new k7);have c2:=HS7.o.up3.cell 0;clear k7);go_roundw
    .refine⟨k+1,by omega,by go_num,?_⟩;unfold Hid SeenS;rw[HNx.o,HNy.o];exact HS7.o.right
    .simp[intOf];omega
  .have hke:snaps.take k=snaps:=List.take_of_length_le (by omega);go_wp2_with fail;go_ret;refine⟨g,rfl,?_⟩;have h9:=HD.o;unfold SeenS at h9;rw[hke] at h9;exact Sat.right (A:=Pt bl 116 #[.slice A es.length c]) (h9.of (by ac_rfl))
theorem seen_any (A:Option Addr) (c:Nat) (es:List En) (SA:Option Addr) (sc:Nat) (snaps:List Int) (h:Sat w0 F w) (hr:RdV w A (es.flatMap enV)) (hs:RdV w SA (snaps.map fun x=> .int .i64 x)) (hn:1<=es.length/\es.length<=1000000) (hsn:snaps.length<=1000000)
  (hmono: ∀ (s:Int) (a b:Nat) (ha:a<es.length) (hb:b<es.length),a<=b->es[a].seq<=s->es[b].seq<=s):
  Calls Tryz.prog 152 #[.slice A es.length c,.slice SA snaps.length sc] w fun x w'=> ∃ g,x = .returned (.slice (some ⟨g,0,none⟩) es.length es.length)/\Sat w0 (Row 4 1 (.slice (some ⟨g,0,none⟩) es.length es.length) es.length ((mrkTo es snaps).map Value.bool)*F) w'/\Chg No w w':=by
 refine(seen0 A c es SA sc snaps w hr hs hn hsn hmono).mono ?_;rintro x w' ⟨g,rfl,hs⟩;exact⟨g,rfl,(h.join hs (owned_star (owned_row _ _ _ _ _) owned_emp)).of (by rw[star_assoc,emp_star]),hs.chg⟩
end
def selE {α:Type}:List Bool->List α->List α
 | true::bs,x::l=>x::selE bs l
 | false::bs,x::l=>selE bs l
 | _,_=>[]
theorem sel_snoc {α:Type}: ∀ (bs:List Bool) (l:List α) (b:Bool) (x:α),bs.length=l.length->selE (bs++[b]) (l++[x])=selE bs l++(if b=true then [x] else [])
 | [],[],true,x,_=>rfl
 | [],[],false,x,_=>rfl
 | [],y::l,b,x,h=>by cases h
 | a::bs,[],b,x,h=>by cases h
 | true::bs,y::l,b,x,h=>by show y::selE (bs++[b]) (l++[x])=y::(selE bs l++_);rw[sel_snoc bs l b x (by simpa using h)]
 | false::bs,y::l,b,x,h=>sel_snoc bs l b x (by simpa using h)
theorem sel_kept (snaps:List Int): ∀ (g:List Ent) (q:Option Int) (bs:List Bool),bs.length=g.length->(∀ i (h:i<g.length) (h':i<bs.length),bs[i]=seenX snaps (if hi:i=0 then q else some (g[i - 1]'(by omega)).seq) g[i])->selE bs g=keptX snaps q g
 | [],q,[],_,_=>rfl
 | [],q,b::bs,h,_=>by cases h
 | x::g,q,[],h,_=>by cases h
 | x::g,q,b::bs,h,hb=>by
  have h0:=hb 0 (by simp) (by simp);simp only[List.getElem_cons_zero,dif_pos] at h0;have ih:=sel_kept snaps g (some x.seq) bs (by simpa using h) (fun i hi hi'=>by
   have h1:=hb (i+1) (by simp;omega) (by simp;omega);simp only[List.getElem_cons_succ] at h1;rw[h1];congr 1
   rw[dif_neg (by omega)];by_cases hz:i=0
   .subst hz;rw[dif_pos rfl];rfl
   .rw[dif_neg hz];obtain⟨j,rfl⟩: ∃ j,i=j+1:=⟨i - 1,by omega⟩;rfl)
  show selE (b::bs) (x::g)=if seenX snaps q x=true then x::keptX snaps (some x.seq) g else keptX snaps (some x.seq) g
  rw[<-h0, <-ih]
  cases b<;>rfl
def descS (es:List En):Prop:= ∀ (a b:Nat) (ha:a<es.length) (hb:b<es.length),a<b->es[b].seq<es[a].seq
theorem mrk_at (es:List En): ∀ (snaps:List Int) (b:List Bool) (i:Nat) (h:i<b.length) (h':i<(snaps.foldl (fun b s=>b.set (fstS s es) true) b).length),(snaps.foldl (fun b s=>b.set (fstS s es) true) b)[i]=(b[i] || snaps.any fun s=>decide (fstS s es=i))
 | [],b,i,h,h'=>by simp
 | s::snaps,b,i,h,h'=>by
  simp only[List.foldl_cons];rw[mrk_at es snaps _ i (by rw[List.length_set];exact h) (by simpa using h'),List.getElem_set,List.any_cons, <-Bool.or_assoc];congr 1
  by_cases hs:fstS s es=i
  .rw[if_pos hs,decide_eq_true hs,Bool.or_true]
  .rw[if_neg hs,decide_eq_false hs,Bool.or_false]
theorem fst_iff {es:List En} (hd:descS es) {s:Int} {i:Nat} (hi:i+1<es.length):fstS s es=i+1↔es[i+1].seq<=s/\s<es[i].seq:=by
 constructor
 .intro h;have h1:fstS s es<es.length:=by omega
  have h2:decide (es[i+1].seq<=s)=true:=by
   have h5:=List.findIdx_getElem (xs:=es) (p:=fun e:En=>decide (e.seq<=s)) (w:=show List.findIdx (fun e:En=>decide (e.seq<=s)) es<es.length from h1);have e:List.findIdx (fun e:En=>decide (e.seq<=s)) es=i+1:=h;simp only[e] at h5;exact h5
  have h3:=List.not_of_lt_findIdx (p:=fun e=>decide (e.seq<=s)) (xs:=es) (i:=i) (by show i<fstS s es;omega);exact⟨of_decide_eq_true h2,by simpa using h3⟩
 .rintro ⟨h1,h2⟩;refine fstS_is (by omega) (fun m hm hmi=>?_) (fun _=>h1);rcases Nat.lt_or_ge m i with h3 | h3
  .have:=hd m i hm (by omega) h3;omega
  .obtain rfl:m=i:=by omega
   omega
theorem mrk_kept {es:List En} (hd:descS es) (snaps:List Int):selE (mrkTo es snaps) (es.map En.ent)=keptX snaps none (es.map En.ent):=by
 refine sel_kept snaps _ none _ (by rw[mrkTo_len,List.length_map]) (fun i h h'=>?_);have hl:i<es.length:=by simpa using h
 have e0:(mrkTo es snaps)[i]=_:=mrk_at es snaps ((List.replicate es.length false).set 0 true) i (by simpa using hl) h';rw[e0,List.getElem_set]
 cases i with
 | zero=>rw[if_pos rfl,dif_pos rfl];rfl
 | succ i=>
  rw[if_neg (by omega),List.getElem_replicate,dif_neg (by omega),Bool.false_or];show _=snaps.any fun s=>decide (((es.map En.ent)[i+1]).seq<=s) && decide (s<((es.map En.ent)[i+1 - 1]'(by simp;omega)).seq)
  congr 1
  funext s
  have h1:=fst_iff hd (s:=s) hl;simp only[List.getElem_map];rw[Bool.eq_iff_iff,Bool.and_eq_true,decide_eq_true_iff,decide_eq_true_iff,decide_eq_true_iff,h1];rfl
theorem ents_drop {w:World} {A:Option Addr} {c n:Nat} {es:List En} (h:RdV w A (es.flatMap enV)) (hn:n<=es.length) (hc:es.length<=c):RdV w (if c=n then A else A.map (·.add (n*4))) ((es.drop n).flatMap enV):=by
 have h1:=RdV.drop h (k:=n*4) (cap:=c*4) (by rw[flatK_len enV_len];omega) (by rw[flatK_len enV_len];omega);have h2:(es.flatMap enV).drop (n*4)=(es.drop n).flatMap enV:=by
  clear h h1 hc
  induction n generalizing es with
  | zero=>simp
  | succ n ih=>
   cases es with
   | nil=>simp
   | cons e es=>
    rw[List.flatMap_cons,List.drop_succ_cons,show (n+1)*4=(enV e).length+n*4 by rw[enV_len];omega, <-List.drop_drop,List.drop_left];exact ih (by simpa using hn)
 rw[h2] at h1;by_cases e:c=n
 .rw[if_pos e];rw[if_pos (by omega)] at h1;exact h1
 .rw[if_neg e];rw[if_neg (by omega)] at h1;exact h1
theorem ents_take {w:World} {A:Option Addr} {n:Nat} {es:List En} (h:RdV w A (es.flatMap enV)) (hn:n<=es.length):RdV w A ((es.take n).flatMap enV):=by
 have h1:=RdV.take h (n*4);have h2:(es.flatMap enV).take (n*4)=(es.take n).flatMap enV:=by
  clear h h1
  induction n generalizing es with
  | zero=>simp
  | succ n ih=>
   cases es with
   | nil=>simp
   | cons e es=>
    rw[List.flatMap_cons,List.take_succ_cons,List.flatMap_cons,show (n+1)*4=(enV e).length+n*4 by rw[enV_len];omega,List.take_length_add_append];rw[ih (by simpa using hn)]
 rwa [h2] at h1
section
variable {key:List UInt8} {seq:Int} {L:List Ent}
def getL (key:List UInt8) (seq:Int) (L:List Ent):Option Ent:=match L.dropWhile (fun x=>lessE x (seekE key seq)) with
 | x::_=>if x.key=key then some x else none
 | []=>none
theorem get_list (key:List UInt8) (seq:Int) (ns:List Nd):getE key seq ns=getL key seq ((absL ns).map (·.1)):=by
 have e:(absL ns).map (·.1)=ns.map fun n=>n.e.ent:=by unfold absL;rw[List.map_map];rfl
 rw[e];have h:(ns.map fun n=>n.e.ent).dropWhile (fun x=>lessE x (seekE key seq))=(behind (seekE key seq) ns).map fun n=>n.e.ent:=by
  unfold behind
  induction ns with
  | nil=>rfl
  | cons n ns ih=>
   rw[List.map_cons,List.dropWhile_cons,List.dropWhile_cons];show (if lessE n.e.ent (seekE key seq)=true then _ else _)=List.map _ (if lessE n.e.ent (seekE key seq)=true then _ else _);split
   .exact ih (by unfold absL;rw[List.map_map];rfl)
   .rfl
 unfold getE getL;rw[h]
 cases behind (seekE key seq) ns<;>rfl
theorem split_at (f:Ent->Bool) (L:List Ent):L=L.takeWhile f++L.dropWhile f:=(List.takeWhile_append_dropWhile).symm
theorem tw_mem {f:Ent->Bool}: ∀ {L:List Ent} {x:Ent},x ∈ L.takeWhile f->f x=true
 | [],_,h=>by simp at h
 | y::L,x,h=>by
  rw[List.takeWhile_cons] at h;split at h
  .rename_i hy;rcases List.mem_cons.1 h with rfl | h
   .exact hy
   .exact tw_mem h
  .simp at h
end
structure TabG (ns:List Nd) (n:Nat):Prop where
 ok:NOk ns
 len:ns.length<=n
 each: ∀ m ∈ ns,m.e.key.2.2.length<=200/\m.e.value.2.2.length<=20000/\m.e.seq<=topSeq
theorem bytG_le: ∀ l:List Nd,(∀ m ∈ l,m.e.key.2.2.length<=200/\m.e.value.2.2.length<=20000/\m.e.seq<=topSeq)->bytN l<=l.length*20200
 | [],_=>Nat.zero_le _
 | x::l,h=>by
  have h3:=bytG_le l fun m hm=>h m (List.mem_cons_of_mem _ hm)
  have h4:=h x List.mem_cons_self;show x.e.key.2.2.length+x.e.value.2.2.length+bytN l<=_;simp only[List.length_cons];omega
theorem TabG.bytle {ns:List Nd} {n:Nat} (h:TabG ns n):bytN ns<=n*20200:=by
 exact Nat.le_trans (bytG_le ns h.each) (Nat.mul_le_mul_right _ h.len)
theorem TabG.small {ns:List Nd} {n:Nat} (h:TabG ns n) (hn:n<=100000):Small ns:=⟨by have:=h.len;omega,fun m hm=>by have:=h.each m hm;omega⟩
theorem tabG_nil (n:Nat):TabG [] n:=⟨nok_nil,Nat.zero_le _,by simp⟩
def PutG (w0:World) (F:SP) (b hr:Nat) (ns:List Nd) (n:Nat) (e:Ent) (H:Int) (x:Ending) (w':World):Prop:=
 ∃ ns',x = .returned (.int .i64 (if twiceM e (absL ns) then 50 else 0))/\TabG ns' (n+1)/\absL ns'=insM e (clampH H) (absL ns)/\Sat w0 (SkipT b hr ns'*F) w'
theorem putG_any (b hr:Nat) (ns:List Nd) (n:Nat) (H:Int) (e:En) (w0 w:World) (F:SP) (h:Sat w0 (SkipT b hr ns*F) w) (ht:TabG ns n) (hn:n<=100000) (he:EnR w e)
  (hk:e.key.2.2.length<=200) (hv:e.value.2.2.length<=20000) (hsq:e.seq<=topSeq):
  Calls Tryz.prog 62 #[.pointer (some ⟨b,0,none⟩),enA e,.int .i64 H] w (PutG w0 F b hr ns n e.ent H):=by
 have hb:0<=(bytN ns:Int)/\(bytN ns:Int)<=1000000000000:=by
  have:=ht.bytle;generalize bytN ns=q at*
  omega
 have hl:=ht.len;refine(mput_any b hr ns ns.length (bytN ns) H e w0 w F h ht.ok he (by omega) (by omega) (by omega) hb).mono ?_;rintro x w' (⟨h1,rfl,h2⟩ | ⟨h1,rfl,N,a1,a2,a3,h2⟩)
 .rw[abs_twice] at h1;exact⟨ns,by rw[h1];rfl,⟨ht.ok,by omega,ht.each⟩,by unfold insM;rw[h1];rfl,h2⟩
 .have hok:=nok_put (H:=H) ht.ok h1 a1 a2 a3;have hab:=ahead_behind e.ent ns;have hlen:ns.length=(ahead e.ent ns).length+(behind e.ent ns).length:=by conv=>lhs;rw[hab,List.length_append]
  have hbyt:bytN ns=bytN (ahead e.ent ns)+bytN (behind e.ent ns):=by
   conv=>lhs;rw[hab]
   unfold bytN;rw[List.map_append,byt_app]
  rw[abs_twice] at h1;refine⟨ahead e.ent ns++N::behind e.ent ns,by rw[h1];rfl,⟨hok,?_,?_⟩,?_,?_⟩
  .rw[List.length_append,List.length_cons];omega
  .intro m hm;rcases List.mem_append.1 hm with hm | hm
   .exact ht.each m (by rw[hab];exact List.mem_append_left _ hm)
   .rcases List.mem_cons.1 hm with rfl | hm
    .have k1:m.e.key.2.2=e.key.2.2:=congrArg Ent.key a1;have k2:m.e.value.2.2=e.value.2.2:=congrArg Ent.value a1;have k3:m.e.seq=e.seq:=congrArg Ent.seq a1;rw[k1,k2,k3];exact⟨hk,hv,hsq⟩
    .exact ht.each m (by rw[hab];exact List.mem_append_right _ hm)
  .unfold insM;rw[h1, <-abs_ahead, <-abs_behind];show absL (_++N::_)=absL _++_::absL _;unfold absL;rw[List.map_append,List.map_cons];have:absN N=(e.ent,clampH H):=by unfold absN;rw[a1,a3]
   rw[this]
  .refine h2.of ?_;unfold SkipT;have e1:((ahead e.ent ns++N::behind e.ent ns).length:Int)=(ns.length:Int)+1:=by rw[List.length_append,List.length_cons];omega
   have e2:(bytN (ahead e.ent ns++N::behind e.ent ns):Int)=(bytN ns:Int)+((e.ent.key.length+e.ent.value.length:Nat):Int):=by
    have:bytN (ahead e.ent ns++N::behind e.ent ns)=bytN (ahead e.ent ns)+(N.e.ent.key.length+N.e.ent.value.length+bytN (behind e.ent ns)):=by
     unfold bytN;rw[List.map_append,byt_app];rfl
    rw[this,a1];omega
   rw[e1,e2]
def entsN (ns:List Nd):List Ent:=(absL ns).map (·.1)
theorem entsN_pw {ns:List Nd} (h:NOk ns):(entsN ns).Pairwise LTE:=by
 unfold entsN absL;rw[List.map_map,List.pairwise_map];exact h.sort
theorem insM_ents (e:Ent) (h:Nat) (L:List Pr) (hn:twiceM e L=false):(insM e h L).map (·.1)=insE e (L.map (·.1)):=by
 unfold insM;rw[if_neg (by rw[hn];simp)];unfold insE aheadM behindM;rw[List.map_append,List.map_cons];have h1: ∀ L:List Pr,(L.takeWhile fun p=>lessE p.1 e).map (·.1)=(L.map (·.1)).takeWhile fun x=>lessE x e:=fun L=>by
  induction L with
  | nil=>rfl
  | cons p L ih=>
   rw[List.takeWhile_cons,List.map_cons,List.takeWhile_cons];split
   .rw[List.map_cons,ih]
   .rfl
 have h2: ∀ L:List Pr,(L.dropWhile fun p=>lessE p.1 e).map (·.1)=(L.map (·.1)).dropWhile fun x=>lessE x e:=fun L=>by
  induction L with
  | nil=>rfl
  | cons p L ih=>
   rw[List.dropWhile_cons,List.map_cons,List.dropWhile_cons];split
   .exact ih
   .rfl
 rw[h1,h2]
theorem twiceM_no {e:Ent} {L:List Pr} (h: ∀ x ∈ L.map (·.1),¬ same1 x e):twiceM e L=false:=by
 unfold twiceM;split
 .rename_i p s hp;rw[decide_eq_false_iff_not];intro h0;have hm:p ∈ behindM e L:=by rw[hp];exact List.mem_cons_self
  exact h p.1 (List.mem_map_of_mem ((List.dropWhile_sublist _).mem hm)) (ord_zero.1 h0)
 .rfl
theorem getL_lk {key:List UInt8} {seq:Int}: ∀ {L:List Ent},L.Pairwise LTE->getL key seq L=lkE key seq L
 | [],_=>rfl
 | x::L,h=>by
  obtain⟨h1,h2⟩:=List.pairwise_cons.1 h;have ih:=getL_lk (key:=key) (seq:=seq) h2;unfold getL at ih ⊢;rw[List.dropWhile_cons];by_cases hx:lessE x (seekE key seq)=true
  .rw[if_pos hx,ih,lk_no];rintro ⟨e1,e2⟩;rcases lte_iff.1 (show LTE x (seekE key seq) from hx) with h3 | ⟨_,h3⟩
   .exact kcb_ne h3 e1
   .have h4:seq<x.seq:=h3;omega
  .rw[if_neg hx];simp only;by_cases hk:x.key=key
   .rw[if_pos hk,lk_yes ⟨hk,?_⟩];rcases Int.lt_or_le seq x.seq with h3 | h3
    .exact absurd (show lessE x (seekE key seq)=true from lte_iff.2 (.inr ⟨hk,h3⟩)) hx
    .exact h3
   .rw[if_neg hk,lk_none];intro y hy e;have hlt:Lib.compareBytes key x.key<0:=by
     rcases kcb_tri key x.key with h3 | h3 | h3
     .exact h3
     .exact absurd h3.symm hk
     .exact absurd (show lessE x (seekE key seq)=true from lte_iff.2 (.inl h3)) hx
    rcases List.mem_cons.1 hy with rfl | hy
    .exact hk e
    .rcases lte_iff.1 (h1 y hy) with h4 | ⟨h4,_⟩
     .have:=cb_trans hlt h4;rw[e] at this;exact kcb_ne this rfl
     .exact hk (h4.trans e)
theorem putN_any (b hr:Nat) (ns:List Nd) (n:Nat) (H:Int) (e:En) (w0 w:World) (F:SP) (h:Sat w0 (SkipT b hr ns*F) w) (ht:TabG ns n) (hn:n<=100000) (he:EnR w e)
  (hk:e.key.2.2.length<=200) (hv:e.value.2.2.length<=20000) (hsq:e.seq<=topSeq) (hnew: ∀ x ∈ entsN ns,¬ same1 x e.ent):
  Calls Tryz.prog 62 #[.pointer (some ⟨b,0,none⟩),enA e,.int .i64 H] w fun x w'=> ∃ ns',x = .returned (.int .i64 0)/\TabG ns' (n+1)/\entsN ns'=insE e.ent (entsN ns)/\Sat w0 (SkipT b hr ns'*F) w':=by
 refine(putG_any b hr ns n H e w0 w F h ht hn he hk hv hsq).mono ?_;rintro x w' ⟨ns',rfl,h1,h2,h3⟩;have h4:=twiceM_no (e:=e.ent) (L:=absL ns) hnew;refine⟨ns',by rw[h4];rfl,h1,?_,h3⟩;unfold entsN;rw[h2,insM_ents _ _ _ h4]
end Go.Proofs.YtmbaiglpgaoogaaGreat
