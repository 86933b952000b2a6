/- Joined, as they were built one by one: App Octet Crc OGet Blk Blk1 Blk2 Blk3 Blk4. -/
import Derived.Laws.BitsAllLaws
import Derived.Test.YtmbaiglpgaoogaaGreatV02
import Derived.Test.YtmbaiglpgaoogaaGreatV08
set_option maxHeartbeats 16000000
namespace Go.Proofs.YtmbaiglpgaoogaaGreat
open Go.RowKit
set_option linter.unusedVariables false
set_option maxRecDepth 100000
section
variable {P:Program} {w0 w:World} {F:SP} {ops:Array Oper} {o:Oper} {a:Act}
theorem Sat.row_sl {e:TypeId} {size n:Nat} {v:Value} {xs:List Value} (h:Sat w0 (Row e size v n xs*F) w): ∃ A c,v = .slice A n c/\n<=c/\c<=maxLen:=by
 obtain⟨_,⟨e1,e2,_⟩ | ⟨g,cap,cur,e1,h1,h2,_⟩⟩:=h.row_cases
 .exact⟨none,0,by rw[e1,e2],by omega,Nat.zero_le _⟩
 .exact⟨_,_,e1,h1,h2⟩
theorem Sat.row_at {e:TypeId} {size n:Nat} {A:Option Addr} {c:Nat} {xs:List Value} (h:Sat w0 (Row e size (.slice A n c) n xs*F) w) (hn:0<n):
  ∃ g,A=some ⟨g,0,none⟩/\ ∀ j (hj:j<xs.length),w.cell? ⟨g,j,none⟩=some xs[j]:=by
 obtain⟨hl,⟨_,e2,_⟩ | ⟨g,cap,cur,e1,h1,h2,h3,h4,h5⟩⟩:=h.row_cases
 .omega
 .injection e1 with e1 _ e3
  refine⟨g,e1,fun j hj=>?_⟩;rw[h5.cell];have h6:xs[j]?=some xs[j]:=List.getElem?_eq_getElem hj;rw[<-h6, <-h4,List.getElem?_take,if_pos (by omega)];simp
theorem Sat.row_setj {e:TypeId} {size n c g j:Nat} {xs:List Value} (h:Sat w0 (Row e size (.slice (some ⟨g,0,none⟩) n c) n xs*F) w) (u:Value):
  Sat w0 (Row e size (.slice (some ⟨g,0,none⟩) n c) n (xs.set j u)*F) (w.setCell ⟨g,j,none⟩ u):=by
 obtain⟨hl,⟨e1,e2,_⟩ | ⟨g',cap,cur,e1,h1,h2,h3,h4,h5⟩⟩:=h.row_cases
 .cases e1
 .injection e1 with e1 _ e3
  injection e1 with e1
  injection e1 with e1
  subst e1;subst e3;have h6:=(h5.set j u).row_pt (n:=n) (cap:=c) (size:=size) h1 h2 (by simpa using h3);have e:(cur.setIfInBounds j u).toList.take (n*size)=xs.set j u:=by rw[Array.toList_setIfInBounds,List.take_set,h4]
  rwa [e] at h6
theorem Sat.row_free {e:TypeId} {size n c g:Nat} {xs:List Value} (h:Sat w0 (Row e size (.slice (some ⟨g,0,none⟩) n c) n xs*F) w) (j:Nat):w.frozen? ⟨g,j,none⟩=false:=by
 obtain⟨hl,⟨e1,e2,_⟩ | ⟨g',cap,cur,e1,h1,h2,h3,h4,h5⟩⟩:=h.row_cases
 .cases e1
 .injection e1 with e1 _ e3
  injection e1 with e1
  injection e1 with e1
  subst e1;exact h5.frozen j
theorem Sat.row_cell {e:TypeId} {size n c g:Nat} {xs:List Value} (h:Sat w0 (Row e size (.slice (some ⟨g,0,none⟩) n c) n xs*F) w) {j:Nat} (hj:j<xs.length):w.cell? ⟨g,j,none⟩=some xs[j]:=by
 obtain⟨hl,⟨e1,e2,_⟩ | ⟨g',cap,cur,e1,h1,h2,h3,h4,h5⟩⟩:=h.row_cases
 .cases e1
 .injection e1 with e1 _ e3
  injection e1 with e1
  injection e1 with e1
  subst e1;rw[h5.cell];have h6:xs[j]?=some xs[j]:=List.getElem?_eq_getElem hj;rw[<-h6, <-h4,List.getElem?_take,if_pos (by omega)];simp
theorem run_appS (t ty e:TypeId) (i:TypeInfo) (z:Value) (size bytes:Nat) (ht:P.underlying t=some (.slice e)) (hi:P.info? e=some i) (hz:i.zero=some z)
  (hsize:i.size=size) (hby:i.bytes=bytes) (hzs:z.cells.size=size) (hsz:0<size)
  (v:Value) (n:Nat) (xs:List Value) (hS:Sat w0 (Row e size v n xs*F) w)
  (A:Option Addr) (m c:Nat) (news:List Value) (hr:RdV w A news) (hm:news.length=m*size) (h1: ∀ u ∈ news,u.oneCell'=true)
  (h63:n+m<=maxLen) (hbytes:(n+m)*bytes<=140737488355328):
  ∃ A' c' w',(Builtin.append_ #[t,t] ty #[v,.slice A m c]).run P w = .ok (.slice A' (n+m) c') w'/\Sat w0 (Row e size (.slice A' (n+m) c') (n+m) (xs++news)*F) w':=by
 obtain⟨v',w',hrun,h2⟩:=run_app (P:=P) w0.heap.size t ty e i z size bytes ht hi hz hsize hby hzs hsz v n xs hS.row_own A m c news hr hm h1 h63 hbytes hS.size;have h3:=hS.appd h2;obtain⟨A',c',rfl,_⟩:=h3.row_sl;exact⟨A',c',w',hrun,h3⟩
theorem wpList_appS {rest:List Oper} {Q:Exit->Act->World->Prop} (hgd:o.guard=none) (s x:Operand) (t:TypeId)
  (ho:o.op = .call { callee:= .builtin .append,args:= #[s,x],argTypes:= #[t,t] })
  (e:TypeId) (i:TypeInfo) (z:Value) (size bytes:Nat) (ht:P.underlying t=some (.slice e)) (hi:P.info? e=some i) (hz:i.zero=some z)
  (hsize:i.size=size) (hby:i.bytes=bytes) (hzs:z.cells.size=size) (hsz:0<size)
  (v:Value) (n:Nat) (xs:List Value) (hs:a.eval s=v) (w0:World) (F:SP) (hS:Sat w0 (Row e size v n xs*F) w)
  (A:Option Addr) (m c:Nat) (news:List Value) (hx:a.eval x = .slice A m c) (hr:RdV w A news) (hm:news.length=m*size) (h1: ∀ u ∈ news,u.oneCell'=true)
  (h63:n+m<=maxLen) (hbytes:(n+m)*bytes<=140737488355328)
  (h: ∀ A' c' w',Sat w0 (Row e size (.slice A' (n+m) c') (n+m) (xs++news)*F) w'->wpList P ops Q rest (a.put o.dst (.slice A' (n+m) c')) w'):wpList P ops Q (o::rest) a w:=by
 refine wpList_plain hgd fun K hK=>?_
 obtain⟨A',c',w',hrun,h2⟩:=run_appS (P:=P) t o.type e i z size bytes ht hi hz hsize hby hzs hsz v n xs hS A m c news hr hm h1 h63 hbytes;unfold Oper.wp execOp;simp only[ho,resolve,invoke,builtin,Sem.run_bind,Sem.run_pure,Result.andThen_ok,List.map_toArray,List.map_cons,List.map_nil,hs,hx,hrun];exact hK _ _ (h _ _ _ h2)
theorem step_appS {K:Act->World->Prop} {Q:Exit->Act->World->Prop} {E:Prop} (hgd:o.guard=none) (s x:Operand) (t:TypeId)
  (ho:o.op = .call { callee:= .builtin .append,args:= #[s,x],argTypes:= #[t,t] })
  (e:TypeId) (i:TypeInfo) (z:Value) (size bytes:Nat) (ht:P.underlying t=some (.slice e)) (hi:P.info? e=some i) (hz:i.zero=some z)
  (hsize:i.size=size) (hby:i.bytes=bytes) (hzs:z.cells.size=size) (hsz:0<size)
  (v:Value) (n:Nat) (xs:List Value) (hs:a.eval s=v) (w0:World) (F:SP) (hS:Sat w0 (Row e size v n xs*F) w)
  (A:Option Addr) (m c:Nat) (news:List Value) (hx:a.eval x = .slice A m c) (hr:RdV w A news) (hm:news.length=m*size) (h1: ∀ u ∈ news,u.oneCell'=true)
  (h63:n+m<=maxLen) (hbytes:(n+m)*bytes<=140737488355328)
  (h: ∀ A' c' w',Sat w0 (Row e size (.slice A' (n+m) c') (n+m) (xs++news)*F) w'->K (a.put o.dst (.slice A' (n+m) c')) w'):
  if Region.wanted o (yielded ops a.tmps)=true then Oper.wp P o a w K Q else E:=by
 have hw:Region.wanted o (yielded ops a.tmps)=true:=by simp[Region.wanted,hgd]
 rw[if_pos hw];obtain⟨A',c',w',hrun,h2⟩:=run_appS (P:=P) t o.type e i z size bytes ht hi hz hsize hby hzs hsz v n xs hS A m c news hr hm h1 h63 hbytes;unfold Oper.wp execOp;simp only[ho,resolve,invoke,builtin,Sem.run_bind,Sem.run_pure,Result.andThen_ok,List.map_toArray,List.map_cons,List.map_nil,hs,hx,hrun];exact h _ _ _ h2
theorem lit_rdv (w:World) (cs:Array Value) (t:TypeId):RdV (w.alloc (.cells cs t)) (some ⟨w.heap.size,0,none⟩) cs.toList:=RdV.lit w cs t (0,0)
end
def byteAt (x w i:Nat):UInt8:=UInt8.ofNat (x / 256 ^ (w - 1 - i) % 256)
def putB (x w:Nat):List UInt8:=(List.range w).map (byteAt x w)
theorem putB_len (x w:Nat):(putB x w).length=w:=by simp[putB]
def NewB (w0:World) (F:SP) (l:List UInt8) (e:Ending) (w':World):Prop:= ∃ A c,e = .returned (.slice A l.length c)/\l.length<=c/\c<=maxLen/\Sat w0 (Row 5 1 (.slice A l.length c) l.length (l.map bv)*F) w'
theorem info_u8o:(Tryz.prog.info? 5).map (fun i=>(i.zero,i.size,i.bytes))=some (some (.int .u8 0),1,1):=by kernel_rfl
theorem run_make_o (n:Nat) (h0:1<=n) (hn:n<=8) (W:World):(Instr.makeSlice 41 (.int .i64 (n:Int)) (.int .i64 (n:Int))).run Tryz.prog W=
  .ok (.slice (some ⟨W.heap.size,0,none⟩) n n) (W.alloc (.cells (madeCells #[.int .u8 0] n) 5)):=by
 obtain⟨i0,hi,hz0,hz1,hz2⟩:=info_parts info_u8o;have hr:=run_make (P:= Tryz.prog) W 41 5 i0 _ Tryz.underlying41 hi hz0 .i64 .i64 n n (by omega) (by omega) (by rw[hz2];omega) (by omega);have hc:(Value.int .u8 0).cells = #[.int .u8 0]:=rfl;simpa [hz1,hc] using hr
theorem oput_any (x n:Nat) (hx:x<18446744073709551616) (h0:1<=n) (hn:n<=8) (w0 w:World) (F:SP) (h:Sat w0 F w):
  Calls Tryz.prog 117 #[.int .u64 (x:Int),.int .i64 (n:Int)] w (NewB w0 F (putB x n)):=by
 have hmk:=run_make_o n h0 hn;have H0:=ah (h.allocPt 5 (madeCells #[.int .u8 0] n));have h1:¬ (n:Int)<1:=by omega
 have h8:¬ (8:Int)<n:=by omega
 obtain⟨g,hg⟩: ∃ g,g=w.heap.size:=⟨_,rfl⟩;have HG:=ah hg;rw[<-hg] at H0;clear h hg;go_enter Tryz.func117, Tryz.ntmps117;go_wp2_with fail;rw[<-HG.o];go_loopw [0,6] (fun xv iv wr=> ∃ k i:Nat,k<=n/\k+i=n/\xv = .int .u64 ((x / 256 ^ k:Nat):Int)/\iv = .int .i64 ((i:Int) - 1)/\Hid (∃ cur:Array Value,cur.size=n/\(∀ j,i<=j->j<n->cur[j]?=some (bv (byteAt x n j)))/\Sat w0 (Pt g 5 cur*F) wr)) (fun _ iv _=>(intOf iv+1).toNat)
 case atStart=>exact⟨0,n,by omega,by omega,by simp,by simp,_,by simp[madeCells],fun j h2 h3=>by omega,H0.o⟩
 case round=>
  obtain⟨k,i,hk,hki,rfl,rfl,HD⟩:=hrel;rcases i with _ | i
  .go_wp2_with fail;go_ret;obtain⟨cur,hc1,hc2,hs⟩:=HD.o;have h9:=Sat.row_pt (n:=n) (cap:=n) (size:=1) hs (Nat.le_refl _) (by unfold maxLen;omega) (by omega);refine⟨some ⟨g,0,none⟩,n,by rw[putB_len];rfl,by rw[putB_len];exact Nat.le_refl _,by unfold maxLen;omega,h9.of ?_⟩;rw[putB_len];congr 2
   apply List.ext_getElem?;intro j;rw[Nat.mul_one,List.getElem?_take];by_cases hj:j<n
   .rw[if_pos hj,Array.getElem?_toList,hc2 j (by omega) hj];simp[putB,hj]
   .rw[if_neg hj];simp[putB,hj]
  .obtain⟨cur,hc1,hc2,hs⟩:=HD.o;obtain⟨Y,hY⟩: ∃ Y,Y=x / 256 ^ k:=⟨_,rfl⟩;have hYb:Y<18446744073709551616:=by rw[hY];exact Nat.lt_of_le_of_lt (Nat.div_le_self _ _) hx
   have hi:i<n:=by omega
   obtain⟨v0,c0⟩: ∃ v0,wr.cell? ⟨g,i,none⟩=some v0:=⟨cur[i],by rw[hs.cell,Array.getElem?_eq_getElem (by omega)]⟩;have f0:=hs.frozen i;have HB:Hid (bv (byteAt x n i) = .int .u8 ((Y:Int) % 256)):=by
    unfold bv byteAt;rw[show n - 1 - i=k by omega, <-hY,UInt8.toNat_ofNat',Nat.mod_mod];rw[show ((Y % 256:Nat):Int)=(Y:Int) % 256 by omega];rfl
   have HQ:Hid (((Y / 256:Nat):Int)=((x / 256 ^ (k+1):Nat):Int)):=by
    unfold Hid;rw[hY,Nat.div_div_eq_div_mul,Nat.pow_succ]
   have HN:Hid (∃ cur':Array Value,cur'.size=n/\(∀ j,i<=j->j<n->cur'[j]?=some (bv (byteAt x n j)))/\Sat w0 (Pt g 5 cur'*F) (wr.setCell ⟨g,i,none⟩ (.int .u8 ((Y:Int) % 256)))):=by
    refine⟨cur.setIfInBounds i (.int .u8 ((Y:Int) % 256)),by simp[hc1],fun j h2 h3=>?_,hs.set i _⟩;by_cases e:i=j
    .subst e;rw[Array.getElem?_setIfInBounds_self_of_lt (by omega),HB.o]
    .rw[Array.getElem?_setIfInBounds_ne e];exact hc2 j (by omega) h3
   have e2:((i+1:Nat):Int) - 1=(i:Int):=by omega
   rw[<-hY,e2];have e3:(i:Int)<n:=by omega
   clear hY hc1 hc2 hs HD e2;go_wp2_with fail;go_roundw
   .exact⟨k+1,i,by omega,by omega,by rw[<-HQ.o,show ((Y / 256:Nat):Int)=(Y:Int) / 256 by omega],rfl,HN.o⟩
   .simp[intOf]<;>omega
def crcS (x:Nat):Nat:=if x % 2=1 then (x / 2) ^^^ 3988292384 else x / 2
def crcN:Nat->Nat->Nat
 | 0,x=>x
 | k+1,x=>crcS (crcN k x)
def crcB (c:Nat) (b:UInt8):Nat:=crcN 8 (c ^^^ b.toNat)
def crcL (l:List UInt8):Nat:=l.foldl crcB 4294967295
def sumB (l:List UInt8):Nat:=crcL l ^^^ 4294967295
theorem xor_lt32 {a b:Nat} (ha:a<4294967296) (hb:b<4294967296):a ^^^ b<4294967296:=Nat.xor_lt_two_pow (n:=32) ha hb
theorem crcS_lt {x:Nat} (h:x<4294967296):crcS x<4294967296:=by
 unfold crcS;split
 .exact xor_lt32 (by omega) (by decide)
 .omega
theorem crcN_lt {x:Nat} (h:x<4294967296): ∀ k,crcN k x<4294967296
 | 0=>h
 | k+1=>crcS_lt (crcN_lt h k)
theorem u8_lt32 (b:UInt8):b.toNat<4294967296:=by have:=b.toNat_lt;omega
theorem crcB_lt {c:Nat} (b:UInt8) (h:c<4294967296):crcB c b<4294967296:=crcN_lt (xor_lt32 h (u8_lt32 b)) 8
theorem crcF_lt: ∀ (l:List UInt8) {c:Nat},c<4294967296->l.foldl crcB c<4294967296
 | [],_,h=>h
 | b::l,_,h=>crcF_lt l (crcB_lt b h)
theorem crcL_lt (l:List UInt8):crcL l<4294967296:=crcF_lt l (by decide)
theorem sumB_lt (l:List UInt8):sumB l<4294967296:=xor_lt32 (crcL_lt l) (by decide)
theorem crcL_snoc (l:List UInt8) (b:UInt8):crcL (l++[b])=crcN 8 (crcL l ^^^ b.toNat):=by
 unfold crcL;rw[List.foldl_append];rfl
theorem xor32 (a b:Nat) (ha:a<4294967296) (hb:b<4294967296):bits .xor .u32 (a:Int) (b:Int)=((a ^^^ b:Nat):Int):=u32_xor_nat a b ha hb
theorem txt_step {ks:Rows_} {i:Nat} (h:i<ks.length):(txt (ks.take (i+1))).flatten=(txt (ks.take i)).flatten++ks[i].2.2:=by
 rw[List.take_succ_eq_append_getElem h,txt_append,List.flatten_append];simp[txt]
theorem crcL_app (p l:List UInt8) {j:Nat} (h:j<l.length):crcL (p++l.take (j+1))=crcN 8 (crcL (p++l.take j) ^^^ l[j].toNat):=by
 rw[List.take_succ_eq_append_getElem h, <-List.append_assoc,crcL_snoc]
theorem and32 (a b:Nat) (ha:a<4294967296) (hb:b<4294967296):bits .and .u32 (a:Int) (b:Int)=((a &&& b:Nat):Int):=u32_and_nat a b ha hb
set_option maxHeartbeats 1000000 in

theorem osum_any (A:Option Addr) (c:Nat) (ks:Rows_) (w:World) (h:RdL w A ks) (hks:ks.length<=1000000) (hl: ∀ k ∈ ks,k.2.2.length<=140737488355328):
    Calls Tryz.prog 138 #[.slice A ks.length c] w fun e w'=>e = .returned (.int .u32 (sumB (txt ks).flatten:Nat))/\w'=w:=by
  have HR:=ah h
  have HLn:=ah hl
  clear h hl
  go_enter Tryz.func138, Tryz.ntmps138
  go_wp2
  go_loopw [3,10] (fun cv iv wr=> ∃ i:Nat,i<=ks.length/\cv = .int .u32 (crcL (txt (ks.take i)).flatten:Nat)/\iv = .int .i64 i/\Hid (wr=w)) (fun _ iv _=>ks.length - (intOf iv).toNat)
  case atStart=>exact⟨0,by omega,rfl,rfl,rfl⟩
  case round=>
    obtain⟨i,hi,rfl,rfl,HW⟩:=hrel
    obtain rfl:=HW.o
    by_cases hlt:i<ks.length
    · obtain⟨⟨b,o,rfl,hc⟩,hx⟩:=HR.o.get hlt
      have HXr:=ah hx
      have hll:=HLn.o _ (List.getElem_mem hlt)
      have HTx:=ah (txt_step hlt)
      obtain⟨l,hl⟩: ∃ l,l=ks[i].2.2:=⟨_,rfl⟩
      obtain⟨p,hp⟩: ∃ p,p=(txt (ks.take i)).flatten:=⟨_,rfl⟩
      rw[<-hl] at hll HXr hc
      rw[<-hl, <-hp] at HTx
      rw[<-hp]
      clear hx hl hp
      go_wp2_with fail
      go_loopw [3,16] (fun cv jv wq=> ∃ j:Nat,j<=l.length/\cv = .int .u32 (crcL (p++l.take j):Nat)/\jv = .int .i64 j/\Hid (wq=wr)) (fun _ jv _=>l.length - (intOf jv).toNat)
      case atStart=>exact⟨0,by omega,by simp,rfl,rfl⟩
      case round=>
        obtain⟨j,hj,rfl,rfl,HW2⟩:=hrel
        obtain rfl:=HW2.o
        by_cases hjl:j<l.length
        · obtain⟨b2,o2,hA,hc2⟩:=HXr.o.get hjl
          have HX:=ah (crcL_app p l hjl)
          obtain⟨x0,hx0⟩: ∃ x0,x0=crcL (p++l.take j):=⟨_,rfl⟩
          have hb0:x0<4294967296:=by rw[hx0];exact crcL_lt _
          have hxx:=xor32 x0 l[j].toNat hb0 (u8_lt32 _)
          have hb1:=l[j].toNat_lt
          rw[<-hx0]
          obtain⟨y,hy⟩: ∃ y,y=x0 ^^^ l[j].toNat:=⟨_,rfl⟩
          have hyb:y<4294967296:=by rw[hy];exact xor_lt32 hb0 (u8_lt32 _)
          rw[<-hx0, <-hy] at HX
          rw[<-hy] at hxx
          rw[hA]
          clear hx0 hy
          go_wp2_with fail
          go_loopw [3,24] (fun cv kv wq=> ∃ k:Nat,k<=8/\cv = .int .u32 (crcN k y:Nat)/\kv = .int .i64 k/\Hid (wq=wr)) (fun _ kv _=>8 - (intOf kv).toNat)
          case atStart=>exact⟨0,by omega,rfl,rfl,rfl⟩
          case round=>
            obtain⟨k,hk,rfl,rfl,HW3⟩:=hrel
            obtain rfl:=HW3.o
            by_cases hk8:k<8
            · obtain⟨z,hz⟩: ∃ z,z=crcN k y:=⟨_,rfl⟩
              have hzb:z<4294967296:=by rw[hz];exact crcN_lt hyb k
              have HZ:Hid (crcN (k+1) y=crcS z):=by rw[hz];rfl
              rw[<-hz]
              clear hz
              by_cases hm:z % 2=1
              · have HS1:Hid (crcS z=z / 2 ^^^ 3988292384):=if_pos hm
                have hxp:bits .xor .u32 ((z:Int) / 2) 3988292384=((z / 2 ^^^ 3988292384:Nat):Int):=by
                  have:=xor32 (z / 2) 3988292384 (by omega) (by decide)
                  simpa using this
                have ha1:bits .and .u32 (z:Int) 1=1:=by
                  have:=and32 z 1 hzb (by decide)
                  rw[Nat.and_one_is_mod,hm] at this
                  simpa using this
                have ha2:bits .and .u32 3988292384 4294967295=3988292384:=by decide
                clear hm
                go_wp2_with fail
                go_roundw
                · exact⟨k+1,by omega,by rw[HZ.o,HS1.o],by push_cast;rfl,by first | trivial | exact rfl⟩
                · simp[intOf];omega
              · have HS1:Hid (crcS z=z / 2):=if_neg hm
                have ha1:bits .and .u32 (z:Int) 1=0:=by
                  have:=and32 z 1 hzb (by decide)
                  rw[Nat.and_one_is_mod,show z % 2=0 by omega] at this
                  simpa using this
                have ha2:bits .and .u32 3988292384 0=0:=by decide
                have ha3:bits .xor .u32 ((z:Int) / 2) 0=((z / 2:Nat):Int):=by
                  have:=xor32 (z / 2) 0 (by omega) (by decide)
                  simpa using this
                clear hm
                go_wp2_with fail
                go_roundw
                · exact⟨k+1,by omega,by rw[HZ.o,HS1.o,show ((z / 2:Nat):Int)=(z:Int) / 2 by omega],by push_cast;rfl,by first | trivial | exact rfl⟩
                · simp[intOf];omega
            · have hk9:k=8:=by omega
              subst hk9
              go_wp2_with fail
              go_roundw
              · exact⟨j+1,by omega,by rw[HX.o],by push_cast;rfl,by first | trivial | exact rfl⟩
              · simp[intOf];omega
        · have hall:l.take j=l:=List.take_of_length_le (by omega)
          rw[hall]
          clear hall
          go_wp2_with fail
          go_roundw
          · exact⟨i+1,by omega,by rw[HTx.o],by push_cast;rfl,by first | trivial | exact rfl⟩
          · simp[intOf];omega
    · have hall:ks.take i=ks:=List.take_of_length_le (by omega)
      have hxl:bits .xor .u32 IntKind.u32.max ((crcL (txt ks).flatten:Nat):Int)=((sumB (txt ks).flatten:Nat):Int):=by
        have h1:=xor32 4294967295 (crcL (txt ks).flatten) (by decide) (crcL_lt _)
        rw[Nat.xor_comm] at h1
        exact h1
      rw[hall]
      clear hall
      go_wp2_with fail
      go_ret
      exact⟨rfl,rfl⟩
def getN (l:List UInt8):Nat:=l.foldl (fun x b=>x*256+b.toNat) 0
theorem getN_snoc (l:List UInt8) (b:UInt8):getN (l++[b])=getN l*256+b.toNat:=by
 unfold getN;rw[List.foldl_append];rfl
theorem getN_take {l:List UInt8} {i:Nat} (h:i<l.length):getN (l.take (i+1))=getN (l.take i)*256+l[i].toNat:=by
 rw[List.take_succ_eq_append_getElem h,getN_snoc]
theorem getF_lt: ∀ (l:List UInt8) (c:Nat),l.foldl (fun x b=>x*256+b.toNat) c<(c+1)*256 ^ l.length
 | [],c=>by simp
 | b::l,c=>by
  have h1:=getF_lt l (c*256+b.toNat);have h2:=b.toNat_lt;rw[List.foldl_cons,List.length_cons,Nat.pow_succ];refine Nat.lt_of_lt_of_le h1 ?_;rw[Nat.mul_comm (256 ^ l.length) 256, <-Nat.mul_assoc];exact Nat.mul_le_mul_right _ (by omega)
theorem getN_lt (l:List UInt8):getN l<256 ^ l.length:=by simpa [getN] using getF_lt l 0
theorem getN_lt64 (l:List UInt8) (h:l.length<=8):getN l<18446744073709551616:=
 Nat.lt_of_lt_of_le (getN_lt l) (Nat.le_trans (Nat.pow_le_pow_right (by decide) h) (by decide))
theorem getN_lt56 (l:List UInt8) (h:l.length<=7):getN l<72057594037927936:=
 Nat.lt_of_lt_of_le (getN_lt l) (Nat.le_trans (Nat.pow_le_pow_right (by decide) h) (by decide))
theorem or64 (x b:Nat) (hx:x<72057594037927936) (hb:b<256):bits .or .u64 ((x:Int)*256) (b:Int)=((x*256+b:Nat):Int):=by
 have h1:=u64_or_nat (x*256) b (by omega) (by omega);have h2:x*256 ||| b=x*256+b:=by
  have:=Nat.shiftLeft_add_eq_or_of_lt (b:=b) (i:=8) (by simpa using hb) x;rw[Nat.shiftLeft_eq] at this;exact this.symm
 rw[h2] at h1;rw[<-h1];push_cast;rfl
theorem oget_any (A:Option Addr) (c:Nat) (l:List UInt8) (w:World) (h:Rd w A l) (hl:l.length<=8):
  Calls Tryz.prog 105 #[.slice A l.length c] w fun e w'=>e = .returned (.int .u64 (getN l:Nat))/\w'=w:=by
 have HR:=ah h;clear h;go_enter Tryz.func105, Tryz.ntmps105;go_wp2;go_loopw [3,8] (fun cv iv wr=> ∃ i:Nat,i<=l.length/\cv = .int .u64 (getN (l.take i):Nat)/\iv = .int .i64 i/\Hid (wr=w)) (fun _ iv _=>l.length - (intOf iv).toNat)
 case atStart=>exact⟨0,by omega,rfl,rfl,rfl⟩
 case round=>
  obtain⟨i,hi,rfl,rfl,HW⟩:=hrel;obtain rfl:=HW.o;by_cases hlt:i<l.length
  .obtain⟨b,o,rfl,hc⟩:=HR.o.get hlt;have HX:=ah (getN_take hlt);have hb:=getN_lt56 (l.take i) (by rw[List.length_take];omega);have hb1:=l[i].toNat_lt;have ho:=or64 (getN (l.take i)) l[i].toNat hb hb1;have hw:IntKind.u64.wrap ((getN (l.take i):Int)*256)=(getN (l.take i):Int)*256:=by rw[IntKind.wrap_u64];omega
   generalize getN (l.take i)=x0 at*
   go_wp2_with fail;go_roundw
   .exact⟨i+1,by omega,by rw[HX.o];push_cast;rfl,by push_cast;rfl,by first | trivial | exact rfl⟩
   .simp[intOf];omega
  .have hall:l.take i=l:=List.take_of_length_le (by omega);rw[hall];clear hall;go_wp2_with fail;go_ret;exact⟨rfl,rfl⟩
theorem putB_succ (x n:Nat):putB x (n+1)=putB (x / 256) n++[UInt8.ofNat (x % 256)]:=by
 unfold putB;rw[List.range_succ,List.map_append];congr 1
 .refine List.map_congr_left fun i hi=>?_
  have hi:=List.mem_range.1 hi;unfold byteAt;rw[Nat.div_div_eq_div_mul,show n+1 - 1 - i=(n - 1 - i)+1 by omega,Nat.pow_succ,Nat.mul_comm 256]
 .simp[byteAt]
theorem get_put: ∀ (n x:Nat),getN (putB x n)=x % 256 ^ n
 | 0,x=>by simp[putB,getN,Nat.mod_one]
 | n+1,x=>by
  rw[putB_succ,getN_snoc,get_put n (x / 256),Nat.pow_succ,UInt8.toNat_ofNat',Nat.mod_mod,Nat.mul_comm (256 ^ n) 256,Nat.mod_mul];omega
structure Dk where
 cells:List (List UInt8 × Bool)
 pend:List (Nat × List UInt8)
 armed:Nat
 writes:Nat
 off:Bool
def slv (s:Slc):Value:= .slice s.1 s.2.2.length s.2.1
def cellV (x:Slc × Bool):List Value:=[slv x.1,.bool x.2]
def pendV (x:Nat × Slc):List Value:=[.int .i64 x.1,slv x.2]
def lastOf (ps:List (Nat × Slc)):Int->Option Value:=fun i=>((ps.reverse.find? fun x=>((x.1:Nat):Int)==i).map fun x=>slv x.2)
def fit (s:Slc):Prop:=(s.1=none->s.2.2=[]/\s.2.1=0)/\(s.2.2=[]->s.1=none)/\s.2.2.length<=s.2.1/\s.2.1<=9223372036854775807
structure Rep (D:Dk) (cs:List (Slc × Bool)) (ps:List (Nat × Slc)):Prop where
 cells:D.cells=cs.map fun x=>(x.1.2.2,x.2)
 pend:D.pend=ps.map fun x=>(x.1,x.2.2.2)
 fitc: ∀ x ∈ cs,fit x.1/\(x.1.2.2=[]\/x.1.2.2.length=512)
 fitp: ∀ x ∈ ps,fit x.2/\x.2.2.2.length=512/\x.1<cs.length
 two:2<=cs.length
 most:cs.length<=65536
def DiskC (d C cc M nm:Nat) (vp:Value) (cs:List (Slc × Bool)) (ps:List (Nat × Slc)) (armed writes:Nat) (off:Bool):SP:=
 Pt d 101 #[.slice (some ⟨C,0,none⟩) cs.length cc,vp,.map (some M),.int .i64 armed,.int .i64 writes,.bool off]*
 (Row 142 2 (.slice (some ⟨C,0,none⟩) cs.length cc) cs.length (cs.flatMap cellV)*
 (Row 140 2 vp ps.length (ps.flatMap pendV)*
 (MapP Tryz.prog 3 M nm (lastOf ps)*
 RoL (cs.map (·.1)++ps.map (·.2)))))
def Disk (d:Nat) (D:Dk):SP:=fun h=> ∃ C cc M nm vp cs ps,Rep D cs ps/\nm<=ps.length/\DiskC d C cc M nm vp cs ps D.armed D.writes D.off h
section
variable {w0 w:World} {F:SP} {d C cc M nm armed writes:Nat} {vp:Value} {cs:List (Slc × Bool)} {ps:List (Nat × Slc)} {off:Bool} {D:Dk}
theorem Sat.disk (h:Sat w0 (Disk d D*F) w): ∃ C cc M nm vp cs ps,Rep D cs ps/\nm<=ps.length/\Sat w0 (DiskC d C cc M nm vp cs ps D.armed D.writes D.off*F) w:=by
 obtain⟨c,x,h1,a,g,h2,h3,⟨C,cc,M,nm,vp,cs,ps,h4,h5,h6⟩,h8⟩:=h;exact⟨C,cc,M,nm,vp,cs,ps,h4,h5,⟨c,x,h1,a,g,h2,h3,h6,h8⟩⟩
theorem Sat.diskI (h:Sat w0 (DiskC d C cc M nm vp cs ps D.armed D.writes D.off*F) w) (hr:Rep D cs ps) (hn:nm<=ps.length):Sat w0 (Disk d D*F) w:=by
 obtain⟨c,x,h1,a,g,h2,h3,h6,h8⟩:=h;exact⟨c,x,h1,a,g,h2,h3,⟨C,cc,M,nm,vp,cs,ps,hr,hn,h6⟩,h8⟩
theorem disk_d:DiskC d C cc M nm vp cs ps armed writes off*F=Pt d 101 #[.slice (some ⟨C,0,none⟩) cs.length cc,vp,.map (some M),.int .i64 armed,.int .i64 writes,.bool off]*
 (Row 142 2 (.slice (some ⟨C,0,none⟩) cs.length cc) cs.length (cs.flatMap cellV)*(Row 140 2 vp ps.length (ps.flatMap pendV)*(MapP Tryz.prog 3 M nm (lastOf ps)*(RoL (cs.map (·.1)++ps.map (·.2))*F)))):=by
 unfold DiskC;ac_rfl
end
def Dk.ask (D:Dk) (i:Int):Int:=if D.off then 21 else if 0<=i/\i<D.cells.length then 0 else 22
theorem Dk.ask_ok {D:Dk} {i:Int} (h1:D.off=false) (h2:0<=i) (h3:i<D.cells.length):D.ask i=0:=by unfold Dk.ask;rw[if_neg (by simp[h1]),if_pos ⟨h2,h3⟩]
structure Head (w:World) (d C cc:Nat) (cs:List (Slc × Bool)) (vp:Value) (M armed writes:Nat) (off:Bool):Prop where
 c0:w.cell? ⟨d,0,none⟩=some (.slice (some ⟨C,0,none⟩) cs.length cc)
 c1:w.cell? ⟨d,1,none⟩=some vp
 c2:w.cell? ⟨d,2,none⟩=some (.map (some M))
 c3:w.cell? ⟨d,3,none⟩=some (.int .i64 armed)
 c4:w.cell? ⟨d,4,none⟩=some (.int .i64 writes)
 c5:w.cell? ⟨d,5,none⟩=some (.bool off)
section
variable {w0 w:World} {F:SP} {d C cc M nm armed writes:Nat} {vp:Value} {cs:List (Slc × Bool)} {ps:List (Nat × Slc)} {off:Bool} {D:Dk}
theorem Sat.head (h:Sat w0 (DiskC d C cc M nm vp cs ps armed writes off*F) w):Head w d C cc cs vp M armed writes off:=by
 have h1:=h.of disk_d;exact⟨h1.cell 0,h1.cell 1,h1.cell 2,h1.cell 3,h1.cell 4,h1.cell 5⟩
theorem Sat.cellsAt (h:Sat w0 (DiskC d C cc M nm vp cs ps armed writes off*F) w) {k:Nat} (hk:k<cs.length):w.cell? ⟨C,k*2,none⟩=some (slv cs[k].1)/\w.cell? ⟨C,k*2+1,none⟩=some (.bool cs[k].2):=by
 have h1:=(h.of disk_d).up2;have hl:=flat2_len (f:=cellV) (fun _=>rfl) cs;have e0:=flat2 (f:=cellV) (fun _=>rfl) cs k 0 hk (by omega);have e1:=flat2 (f:=cellV) (fun _=>rfl) cs k 1 hk (by omega);rw[List.getElem?_eq_getElem (by omega)] at e0 e1;refine⟨?_,?_⟩
 .rw[h1.row_cell (j:=k*2) (by omega)];exact e0
 .rw[h1.row_cell (j:=k*2+1) (by omega)];exact e1
theorem Sat.cellsFree (h:Sat w0 (DiskC d C cc M nm vp cs ps armed writes off*F) w) (i:Nat):w.frozen? ⟨C,i,none⟩=false:=((h.of disk_d).up2).row_free i
theorem Sat.headF (h:Sat w0 (DiskC d C cc M nm vp cs ps armed writes off*F) w) (i:Nat):w.frozen? ⟨d,i,none⟩=false:=(h.of disk_d).frozen i
end
section
variable {w0 w:World} {F:SP} {d C cc M nm armed writes:Nat} {vp:Value} {cs:List (Slc × Bool)} {ps:List (Nat × Slc)} {off:Bool} {D:Dk}
theorem Sat.setArmed (h:Sat w0 (DiskC d C cc M nm vp cs ps armed writes off*F) w) (a:Nat) {x:Int} (hx:x=a):Sat w0 (DiskC d C cc M nm vp cs ps a writes off*F) (w.setCell ⟨d,3,none⟩ (.int .i64 x)):=by
 subst hx;exact(((h.of disk_d).set 3 (.int .i64 a)).of (disk_d (F:=F) (d:=d) (C:=C) (cc:=cc) (M:=M) (nm:=nm) (vp:=vp) (cs:=cs) (ps:=ps) (armed:=a) (writes:=writes) (off:=off)).symm)
theorem Sat.setWrites (h:Sat w0 (DiskC d C cc M nm vp cs ps armed writes off*F) w) (a:Nat) {x:Int} (hx:x=a):Sat w0 (DiskC d C cc M nm vp cs ps armed a off*F) (w.setCell ⟨d,4,none⟩ (.int .i64 x)):=by
 subst hx;exact(((h.of disk_d).set 4 (.int .i64 a)).of (disk_d (F:=F) (d:=d) (C:=C) (cc:=cc) (M:=M) (nm:=nm) (vp:=vp) (cs:=cs) (ps:=ps) (armed:=armed) (writes:=a) (off:=off)).symm)
theorem Sat.setOff (h:Sat w0 (DiskC d C cc M nm vp cs ps armed writes off*F) w) (a:Bool):Sat w0 (DiskC d C cc M nm vp cs ps armed writes a*F) (w.setCell ⟨d,5,none⟩ (.bool a)):=
 (((h.of disk_d).set 5 (.bool a)).of (disk_d (F:=F) (d:=d) (C:=C) (cc:=cc) (M:=M) (nm:=nm) (vp:=vp) (cs:=cs) (ps:=ps) (armed:=armed) (writes:=writes) (off:=a)).symm)
end
theorem asked_any (d:Nat) (D:Dk) (i:Int) (w0 w:World) (F:SP) (h:Sat w0 (Disk d D*F) w):
  Calls Tryz.prog 156 #[.pointer (some ⟨d,0,none⟩),.int .i64 i] w fun e w'=>e = .returned (.int .i64 (D.ask i))/\w=w':=by
 obtain⟨C,cc,M,nm,vp,cs,ps,hr,hn,hs⟩:=h.disk;have hc0:=hs.head.c0;have hc5:=hs.head.c5;have hl:D.cells.length=cs.length:=by rw[hr.cells];simp
 have H1:Hid (D.ask i=if D.off then 21 else if 0<=i/\i<cs.length then 0 else 22):=by unfold Dk.ask Hid;rw[hl]
 clear hr hn hs h hl;by_cases ho:D.off=true
 .rw[ho] at hc5;have HO:=ah ho;clear ho;go_enter Tryz.func156, Tryz.ntmps156;go_wp2;go_ret;exact⟨by rw[H1.o,if_pos HO.o];rfl,rfl⟩
 .have ho':D.off=false:=by simpa using ho
  rw[ho'] at hc5;have HO:=ah ho;clear ho ho';by_cases h1:i<0
  .go_enter Tryz.func156, Tryz.ntmps156;go_wp2;go_ret;exact⟨by rw[H1.o,if_neg HO.o,if_neg (by omega)];rfl,rfl⟩
  .by_cases h2:(cs.length:Int)<=i
   .go_enter Tryz.func156, Tryz.ntmps156;go_wp2;go_ret;exact⟨by rw[H1.o,if_neg HO.o,if_neg (by omega)];rfl,rfl⟩
   .go_enter Tryz.func156, Tryz.ntmps156;go_wp2;go_ret;exact⟨by rw[H1.o,if_neg HO.o,if_pos (by omega)];rfl,rfl⟩
theorem blocks_any (d:Nat) (D:Dk) (w0 w:World) (F:SP) (h:Sat w0 (Disk d D*F) w):
  Calls Tryz.prog 51 #[.pointer (some ⟨d,0,none⟩)] w fun e w'=>e = .returned (.int .i64 D.cells.length)/\w=w':=by
 obtain⟨C,cc,M,nm,vp,cs,ps,hr,hn,hs⟩:=h.disk;have hc0:=hs.head.c0;have HL:Hid (D.cells.length=cs.length):=by rw[hr.cells];unfold Hid;simp
 clear hr hn hs h;go_enter Tryz.func51, Tryz.ntmps51;go_wp2;go_ret;exact⟨by rw[HL.o];rfl,rfl⟩
theorem off_any (d:Nat) (D:Dk) (w0 w:World) (F:SP) (h:Sat w0 (Disk d D*F) w):
  Calls Tryz.prog 40 #[.pointer (some ⟨d,0,none⟩)] w fun e w'=>e = .returned (.bool D.off)/\w=w':=by
 obtain⟨C,cc,M,nm,vp,cs,ps,hr,hn,hs⟩:=h.disk;have hc5:=hs.head.c5;clear hr hn hs h;go_enter Tryz.func40, Tryz.ntmps40;go_wp2;go_ret;exact⟨rfl,rfl⟩
theorem settled_any (d:Nat) (D:Dk) (w0 w:World) (F:SP) (h:Sat w0 (Disk d D*F) w):
  Calls Tryz.prog 79 #[.pointer (some ⟨d,0,none⟩)] w fun e w'=>e = .returned (.tuple #[])/\Sat w0 (Disk d { D with pend:=[] }*F) w':=by
 obtain⟨C,cc,M,nm,vp,cs,ps,hr,hn,hs⟩:=h.disk;have hc1:=hs.head.c1;have hc2:=hs.head.c2;have hf1:=hs.headF 1;have h1:=(hs.of disk_d).set 1 (.slice none 0 0);have h2:=h1.up4;obtain⟨w2,hrun,hs2,_⟩:=h2.map_clear (t:= 98) Tryz.underlying98 0;have HE:Hid (Sat w0 (Disk d { D with pend:=[] }*F) w2):=by
  have h3:=hs2.dn4.up3.right.up4.rol_sub (rs':=cs.map (·.1)++([]:List (Nat × Slc)).map (·.2)) (fun r hr=>List.mem_append_left _ (by simpa using hr));have h4:=(h3.dn4.row_nil 140 2).dn3;exact Sat.diskI (D:={ D with pend:=[] }) (ps:=[]) (h4.of (disk_d (F:=F) (d:=d) (C:=C) (cc:=cc) (M:=M) (nm:=0) (vp:= .slice none 0 0) (cs:=cs) (ps:=[]) (armed:=D.armed) (writes:=D.writes) (off:=D.off)).symm) ⟨hr.cells,rfl,hr.fitc,by simp,hr.two,hr.most⟩ (Nat.le_refl _)
 clear hr hn hs h h1 h2 hs2;go_enter Tryz.func79, Tryz.ntmps79;go_wp2;go_end0
 exact⟨rfl,HE.o⟩
def Dk.last (D:Dk) (i:Int):Option (List UInt8):=(D.pend.reverse.find? fun x=>((x.1:Nat):Int)==i).map fun x=>x.2
def Dk.read (D:Dk) (i:Int):List UInt8 × Int:=
 if D.ask i=0 then
  match D.last i with
  | some b=>(b,0)
  | none=>match D.cells[i.toNat]? with
   | some (b,t)=>if t then ([],24) else if b=[] then (List.replicate 512 0,0) else (b,0)
   | none=>([],0)
 else ([],D.ask i)
theorem lastOf_map (ps:List (Nat × Slc)) (i:Int):((ps.map fun x=>(x.1,x.2.2.2)).reverse.find? fun x=>((x.1:Nat):Int)==i)=(ps.reverse.find? fun x=>((x.1:Nat):Int)==i).map fun x=>(x.1,x.2.2.2):=by
 rw[<-List.map_reverse,List.find?_map];rfl
theorem zero_sl (w:World):(zeroValue 41).run Tryz.prog w = .ok (.slice none 0 0) w:=by kernel_rfl
def ReadD (d:Nat) (D:Dk) (i:Int) (w0:World) (F:SP) (e:Ending) (w':World):Prop:=
 ∃ v,e = .returned (.tuple #[v,.int .i64 (D.read i).2])/\Sat w0 (Row 5 1 v (D.read i).1.length ((D.read i).1.map bv)*(Disk d D*F)) w'
theorem read_any (d:Nat) (D:Dk) (i:Int) (w0 w:World) (F:SP) (h:Sat w0 (Disk d D*F) w):
  Calls Tryz.prog 128 #[.pointer (some ⟨d,0,none⟩),.int .i64 i] w (ReadD d D i w0 F):=by
 have HA:=ah (asked_any d D i w0 w F h);obtain⟨C,cc,M,nm,vp,cs,ps,hr,hn,hs⟩:=h.disk;have HH:=ah h;by_cases h0:D.ask i=0
 .have hb:0<=i/\i<cs.length/\D.off=false:=by
   unfold Dk.ask at h0;have:D.cells.length=cs.length:=by rw[hr.cells];simp
   rw[this] at h0;split at h0
   .omega
   .split at h0
    .rename_i h1 h2;exact⟨h2.1,h2.2,by simpa using h1⟩
    .omega
  obtain⟨hb1,hb2,_⟩:=hb;obtain⟨k,rfl⟩: ∃ k:Nat,i=k:=⟨i.toNat,by omega⟩;have hk:k<cs.length:=by omega
  have HR:Hid (D.read k=match D.last k with
   | some b=>(b,0)
   | none=>if cs[k].2 then ([],24) else if cs[k].1.2.2=[] then (List.replicate 512 0,0) else (cs[k].1.2.2,0)):=by
   unfold Hid Dk.read;rw[if_pos h0,hr.cells];have e:(List.map (fun x:Slc × Bool=>(x.1.2.2,x.2)) cs)[(k:Int).toNat]?=some (cs[k].1.2.2,cs[k].2):=by rw[Int.toNat_natCast,List.getElem?_map,List.getElem?_eq_getElem hk];rfl
   rw[e]
  have HL:Hid (D.last k=(ps.reverse.find? fun x=>((x.1:Nat):Int)==k).map fun x=>x.2.2.2):=by
   unfold Hid Dk.last;rw[hr.pend,lastOf_map]
   cases (ps.reverse.find? fun x=>((x.1:Nat):Int)==k)<;>rfl
  have hc0:=hs.head.c0;have hc2:=hs.head.c2;have hm:=(hs.of disk_d).up4;have hl:=Sat.map_look hm Tryz.underlying3 (t:= 98) Tryz.underlying98 (zero_sl w) k (by have:=hr.most;omega);have hx:=hr.fitc cs[k] (List.getElem_mem hk);obtain⟨q0,q1⟩:=hs.cellsAt hk;have HRd:=ah fun (r:Slc) (hr:r ∈ cs.map (·.1)++ps.map (·.2))=>(hs.of disk_d).up5.rol hr
  have HFp:=ah hr.fitp;have HK:=ah (List.getElem_mem hk);have HX:=ah hx;have H0:=ah h0;have hnil:=fun (W:World) (A:Option Addr) (n c:Nat)=>run_neq_slice_nil_any (P:= Tryz.prog) W 41 5 A n c 0 0 Tryz.underlying41
  clear hr hn hs h hx hm h0;generalize cs[k]=x at*
  obtain⟨⟨Ax,cx,lx⟩,tx⟩:=x;simp only[slv] at q0 q1;unfold lastOf at hl
  cases hf:ps.reverse.find? fun x=>((x.1:Nat):Int)==k with
  | some p=>
   rw[hf] at hl HL;simp only[Option.map_some,Option.getD_some,Option.isSome_some,slv] at hl;have hp:p ∈ ps:=by have:=List.mem_of_find?_eq_some hf;simpa using this
   have HP:Hid (D.read k=(p.2.2.2,0)):=by have h1:=HR.o;rw[show D.last k=some p.2.2.2 from HL.o] at h1;exact h1
   have HC:=ah (clone_any p.2.1 p.2.2.1 p.2.2.2 w (HRd.o p.2 (List.mem_append_right _ (List.mem_map_of_mem hp))) (by have:=(HFp.o p hp).2.1;omega));clear hf hp;generalize p.2=y at*
   obtain⟨Ay,cy,ly⟩:=y;go_enter Tryz.func128, Tryz.ntmps128;go_wp2_with fail;refine HA.o.mono ?_;rintro e w' ⟨rfl,rfl⟩;rw[H0.o];go_wp2_with fail;refine HC.o.mono ?_;rintro e w' ⟨v,rfl,hown,_,hchg⟩;have HO:=ah hown;have HG:=ah hchg;clear hown hchg;go_wp2_with fail;go_ret2;refine⟨v,by rw[HP.o];rfl,?_⟩;rw[HP.o];exact HH.o.gotRow HG.o HO.o
  | none=>
   rw[hf] at hl HL;simp only[Option.map_none,Option.getD_none,Option.isSome_none] at hl;have HL2:Hid (D.last k=none):=HL.o;clear HL hf
   cases tx with
   | true=>
    have HP:Hid (D.read k=([],24)):=by have h1:=HR.o;rw[HL2.o] at h1;exact h1
    go_enter Tryz.func128, Tryz.ntmps128;go_wp2_with fail;refine HA.o.mono ?_;rintro e w' ⟨rfl,rfl⟩;rw[H0.o];go_wp2_with fail;go_ret2;refine⟨.slice none 0 0,by rw[HP.o];rfl,?_⟩;rw[HP.o];exact(HH.o.alloc' _).row_nil _ 1
   | false=>
    have hft:=HX.o.1;by_cases hn0:lx=[]
    .have HP:Hid (D.read k=(List.replicate 512 0,0)):=by have h1:=HR.o;rw[HL2.o] at h1;simp only[Bool.false_eq_true,if_false] at h1;rw[if_pos hn0] at h1;exact h1
     obtain rfl:Ax=none:=hft.2.1 hn0;have HN:=ah hn0;have hmk:=make_512;clear hn0 hft;go_enter Tryz.func128, Tryz.ntmps128;go_wp2_with fail;refine HA.o.mono ?_;rintro e w' ⟨rfl,rfl⟩;rw[H0.o];go_wp2_with fail;go_ret2;refine⟨_,by rw[HP.o];rfl,?_⟩;rw[HP.o];exact bytes_row ((HH.o.alloc' _).allocAt _ (noughts 512) (by simp)) (by decide)
    .have HP:Hid (D.read k=(lx,0)):=by have h1:=HR.o;rw[HL2.o] at h1;simp only[Bool.false_eq_true,if_false] at h1;rw[if_neg hn0] at h1;exact h1
     rcases Ax with _ | ax
     .exact absurd (hft.1 rfl).1 hn0
     have HC:=ah fun (W:World) (hW:Chg No w W)=>clone_any (some ax) cx lx W ((HRd.o (some ax,cx,lx) (List.mem_append_left _ (List.mem_map_of_mem (f:=Prod.fst) HK.o))).new hW) (by have:=hft.2.2;have:=HX.o.2;rcases this with h | h;exact absurd h hn0;show lx.length<=_;have h':lx.length=512:=h;omega)
     clear hn0 hft;go_enter Tryz.func128, Tryz.ntmps128;go_wp2_with fail;refine HA.o.mono ?_;rintro e w' ⟨rfl,rfl⟩;rw[H0.o];go_wp2_with fail;refine(HC.o _ ((Chg.refl No w).alloc _)).mono ?_;rintro e w' ⟨v,rfl,hown,_,hchg⟩;have HO:=ah hown;have HG:=ah hchg;clear hown hchg;go_wp2_with fail;go_ret2;refine⟨v,by rw[HP.o];rfl,?_⟩;rw[HP.o];exact(HH.o.alloc' _).gotRow HG.o HO.o
 .go_enter Tryz.func128, Tryz.ntmps128;have h0':(D.ask i !=0)=true:=by simpa using h0
  have H0:=ah h0;clear h0 hr hn hs h;go_wp2_with fail;refine HA.o.mono ?_;rintro e w' ⟨rfl,rfl⟩;go_wp2_with fail;go_ret2;refine⟨.slice none 0 0,?_,?_⟩
  .rw[Dk.read,if_neg H0.o];rfl
  .rw[Dk.read,if_neg H0.o];exact HH.o.row_nil _ 1
def Dk.took (D:Dk) (i:Nat) (b:List UInt8):Dk:=⟨D.cells,D.pend++[(i,b)],D.armed - 1,D.writes+1,if D.armed=1 then true else D.off⟩
def Dk.write (D:Dk) (i:Int) (b:List UInt8):Dk × Int:=
 if D.ask i=0 then
  if b.length=512 then (D.took i.toNat b,if D.armed=1 then 21 else 0) else (D,23)
 else (D,D.ask i)
theorem info_write:(Tryz.prog.info? 140).map (fun i=>(i.zero,i.size,i.bytes))=some (some (.agg #[.int .i64 0,.slice none 0 0]),2,32):=by kernel_rfl
theorem lastOf_snoc (ps:List (Nat × Slc)) (i:Nat) (y:Slc):lastOf (ps++[(i,y)])=upd (lastOf ps) i (slv y):=by
 funext j
 unfold lastOf upd;rw[List.reverse_append];simp only[List.reverse_cons,List.reverse_nil,List.nil_append,List.singleton_append,List.find?_cons];by_cases h:j=(i:Int)
 .subst h;simp
 .have:(((i:Nat):Int)==j)=false:=by simpa using fun e=>h e.symm
  rw[this,if_neg h]
theorem disk_took {d C cc M nm k armed writes:Nat} {A2 A3:Option Addr} {c2 c3:Nat} {cs:List (Slc × Bool)} {ps:List (Nat × Slc)} {off:Bool} {b:List UInt8} {F G:SP}:
  MapP Tryz.prog 3 M (nm+1) (upd (lastOf ps) k (.slice A2 b.length c2))*(Pt d 101 #[.slice (some ⟨C,0,none⟩) cs.length cc,.slice A3 (ps.length+1) c3,.map (some M),.int .i64 armed,.int .i64 writes,.bool off]*
   (Row 140 2 (.slice A3 (ps.length+1) c3) (ps.length+1) (ps.flatMap pendV++[.int .i64 k,.slice A2 b.length c2])*(Row 142 2 (.slice (some ⟨C,0,none⟩) cs.length cc) cs.length (cs.flatMap cellV)*(RoL (cs.map (·.1)++ps.map (·.2))*(G*(Ro A2 (b.map bv)*F))))))=
  G*(DiskC d C cc M (nm+1) (.slice A3 (ps.length+1) c3) cs (ps++[(k,(A2,c2,b))]) armed writes off*F):=by
 have e1:Ro A2 (b.map bv)=RoL [(A2,c2,b)]:=rb_rol (A2,c2,b);have e2:RoL (cs.map (·.1)++(ps++[(k,(A2,c2,b))]).map (·.2))=RoL (cs.map (·.1)++ps.map (·.2))*RoL [(A2,c2,b)]:=by
  rw[List.map_append, <-List.append_assoc, <-rol_app];rfl
 unfold DiskC;rw[e1,e2,lastOf_snoc,List.flatMap_append,List.length_append];show _=G*((_*(_*(Row _ 2 _ (ps.length+1) (_++[.int .i64 k,.slice A2 b.length c2])*(MapP _ _ _ _ (upd _ _ (.slice A2 b.length c2))*(_*_)))))*F)
 ac_rfl
def WriteD (d:Nat) (D:Dk) (i:Int) (b:List UInt8) (w0:World) (F:SP) (e:Ending) (w':World):Prop:=
 e = .returned (.int .i64 (D.write i b).2)/\Sat w0 (Disk d (D.write i b).1*F) w'
theorem write_any (d:Nat) (D:Dk) (i:Int) (A:Option Addr) (c:Nat) (b:List UInt8) (w0 w:World) (F:SP) (h:Sat w0 (Disk d D*F) w) (hb:Rd w A b) (hbl:b.length<=140737488355328)
  (hw1:D.writes<=1000000000) (hw2:D.pend.length<=1000000000) (hw3:D.armed<=9223372036854775807):
  Calls Tryz.prog 131 #[.pointer (some ⟨d,0,none⟩),.int .i64 i,.slice A b.length c] w (WriteD d D i b w0 F):=by
 have HA:=ah (asked_any d D i w0 w F h);have HH:=ah h;by_cases h0:D.ask i=0
 .by_cases h1:b.length=512
  .obtain⟨C,cc,M,nm,vp,cs,ps,hr,hn,hs⟩:=h.disk;have hi:0<=i/\i<cs.length/\D.off=false:=by
    unfold Dk.ask at h0;have:D.cells.length=cs.length:=by rw[hr.cells];simp
    rw[this] at h0;split at h0
    .omega
    .split at h0
     .rename_i h1 h2;exact⟨h2.1,h2.2,by simpa using h1⟩
     .omega
   obtain⟨hi1,hi2,_⟩:=hi;obtain⟨k,rfl⟩: ∃ k:Nat,i=k:=⟨i.toNat,by omega⟩;have HP:Hid (D.write k b=(D.took k b,if D.armed=1 then 21 else 0)):=by unfold Hid Dk.write;rw[if_pos h0,if_pos h1];rfl
   obtain⟨A1,c1,rfl,_,_⟩:=(hs.of disk_d).up3.row_sl;have hc1:=hs.head.c1;have hf1:=hs.headF 1;have HC:=ah (clone_any A c b w hb hbl);have hpl:D.pend.length=ps.length:=by rw[hr.pend];simp
   rw[hpl] at hw2;obtain⟨i0,hi,hz0,hz1,hz2⟩:=info_parts info_write;have H0:=ah h0;have H1:=ah h1;have HR:=ah hr;have HN:=ah hn;have HS:=ah hs;have hne:((b.length:Int) !=512)=false:=by rw[h1];rfl
   clear h0 h1 hr hn hs h hb hpl;go_enter Tryz.func131, Tryz.ntmps131;go_wp2_with fail;refine HA.o.mono ?_;rintro e w' ⟨rfl,rfl⟩;rw[H0.o];go_wp2_with fail;refine HC.o.mono ?_;rintro e w1 ⟨v,rfl,hown,hvn,hchg⟩;obtain⟨A2,c2,rfl,hc2,hc3,hs1⟩:=HS.o.gotRo hchg hown;have HS1:=ah hs1;have HC2:=ah (And.intro hc2 hc3);have HF2:Hid (A2=none->b=[]):=fun e=>by subst e;have:=hs1.rdv;by_cases hb0:b=[];exact hb0;obtain⟨_,_,e,_⟩:=this (by simpa using hb0);cases e
   clear hown hchg hs1 hvn hc2 hc3;have hq1:=(HS1.o.right).head.c1;have hg1:=(HS1.o.right).headF 1;clear hc1 hf1;go_wp2_with fail;have hs2:=HS1.o.allocPt 140 #[.int .i64 k,.slice A2 b.length c2];obtain⟨w2,hw2'⟩: ∃ w2,w2=w1.alloc (.cells #[.int .i64 k,.slice A2 b.length c2] 140):=⟨_,rfl⟩;obtain⟨g,hg⟩: ∃ g,g=w1.heap.size:=⟨_,rfl⟩;rw[<-hw2', <-hg] at hs2 ⊢;clear hw2' hg HS1 hq1 hg1;have hs3:=(hs2.up3.of disk_d).up3;have q0:=hs2.cell 0;have q1:=hs2.cell 1;have q2:=(hs2.up3.of disk_d).cell 1;have q5:=((hs2.up3.of disk_d).alloc' (.cells #[.int .i64 k,.slice A2 b.length c2] 140)).cell 1;have HS2:=ah hs3;clear hs2 hs3;go_region_law (refine step_appS rfl (.tmp 26) (.tmp 28) 99 rfl 140 i0 _ 2 32 Tryz.underlying99 hi hz0 hz1 hz2 rfl (by decide) (.slice A1 ps.length c1) ps.length (ps.flatMap pendV) rfl w0 _ (by exact HS2.o.drew.alloc' _) (some ⟨w2.heap.size,0,none⟩) 1 1 [.int .i64 k,.slice A2 b.length c2] rfl (lit_rdv _ _ _) rfl (by intro u hu;simp at hu;rcases hu with rfl | rfl<;>rfl) (by unfold maxLen;omega) (by omega) ?_;intro A3 c3 w3 hs3;have q3:=hs3.up2.frozen 1;have q4:=hs3.up2.cell 1;have HS3:=ah hs3;clear hs3)
   all_goals
    go_wp2_with fail;have hs4:=HS3.o.up2.set 1 (.slice A3 (ps.length+1) c3);obtain⟨w4,hw4⟩: ∃ w4,w4=w3.setCell ⟨d,1,none⟩ (.slice A3 (ps.length+1) c3):=⟨_,rfl⟩;rw[<-hw4] at hs4 ⊢;clear hw4 HS3 HS2 q0 q1 q2 q3 q4 q5;have q0:=hs4.cell 2;have q1:=hs4.up6.cell 1;obtain⟨w5,hrun,hs5,_⟩:=hs4.up4.drew.map_store (t:= 98) Tryz.underlying3 Tryz.underlying98 k (by have:=HR.o.most;omega) (.slice A2 b.length c2) (by have:=HN.o;unfold maxLen;omega);have hs6:=(hs5.of disk_took).right;have q4:=hs6.head.c4;have q3:=hs6.head.c3;have q5:=hs6.head.c5;have f3:=hs6.headF 3;have f4:=hs6.headF 4;have f5:=hs6.headF 5;have HS6:=ah hs6;clear hs4 hs5 hs6;go_region
    clear hrun q0 q1;have hrep: ∀ D':Dk,D'.cells=D.cells->D'.pend=D.pend++[(k,b)]->Rep D' cs (ps++[(k,(A2,c2,b))]):=fun D' e1 e2=>
     ⟨e1.trans HR.o.cells,by rw[e2,HR.o.pend,List.map_append];rfl,HR.o.fitc,fun x hx=>by
      rcases List.mem_append.1 hx with hx | hx
      .exact HR.o.fitp x hx
      .simp at hx;subst hx;refine⟨⟨fun e=>?_,fun e=>?_,HC2.o.1,HC2.o.2⟩,H1.o,by omega⟩
       .exact absurd (HF2.o e) (by intro e';have:=H1.o;rw[e'] at this;simp at this)
       .have:=H1.o;rw[show b=[] from e] at this;simp at this,HR.o.two,HR.o.most⟩
    have HRep:=ah hrep;have HNm:Hid (nm+1<=(ps++[(k,((A2,c2,b):Slc))]).length):=by have:=HN.o;unfold Hid;simp;omega
    clear hrep;have hwr:(D.writes:Int)<=1000000000:=by omega
    by_cases ha:D.armed=0
    .have HE:Hid (Sat w0 (Disk d (D.took k b)*F) (w5.setCell ⟨d,4,none⟩ (.int .i64 ((D.writes:Int)+1)))):=
      Sat.diskI (D:=D.took k b) ((HS6.o.setWrites (D.writes+1) (by omega)).of (by unfold Dk.took;rw[ha];rfl)) (HRep.o _ rfl rfl) HNm.o
     rw[ha] at q3;have HA0:=ah ha;clear ha;go_wp2_with fail;go_ret;refine⟨by rw[HP.o,HA0.o];rfl,?_⟩;rw[HP.o];exact HE.o
    .by_cases ha1:D.armed=1
     .have HE:Hid (Sat w0 (Disk d (D.took k b)*F) (((w5.setCell ⟨d,4,none⟩ (.int .i64 ((D.writes:Int)+1))).setCell ⟨d,3,none⟩ (.int .i64 0)).setCell ⟨d,5,none⟩ (.bool true))):=
       Sat.diskI (D:=D.took k b) ((((HS6.o.setWrites (D.writes+1) (by omega)).setArmed 0 (by omega)).setOff true).of (by unfold Dk.took;rw[ha1];rfl)) (HRep.o _ rfl rfl) HNm.o
      rw[ha1] at q3;have HA0:=ah ha1;clear ha ha1;go_wp2_with fail;go_ret;refine⟨by rw[HP.o,HA0.o];rfl,?_⟩;rw[HP.o];exact HE.o
     .have HE:Hid (Sat w0 (Disk d (D.took k b)*F) ((w5.setCell ⟨d,4,none⟩ (.int .i64 ((D.writes:Int)+1))).setCell ⟨d,3,none⟩ (.int .i64 ((D.armed:Int) - 1)))):=
       Sat.diskI (D:=D.took k b) (((HS6.o.setWrites (D.writes+1) (by omega)).setArmed (D.armed - 1) (by omega)).of (by unfold Dk.took;rw[if_neg ha1])) (HRep.o _ rfl rfl) HNm.o
      have HA0:=ah ha1;have ha2:(0:Int)<D.armed:=by omega
      have ha3:((D.armed:Int) - 1==0)=false:=by rw[beq_eq_false_iff_ne];omega
      have ha4:(D.armed:Int)<=9223372036854775807:=by omega
      clear ha ha1;go_wp2_with fail;go_ret;refine⟨by rw[HP.o,if_neg HA0.o];rfl,?_⟩;rw[HP.o];exact HE.o
  .have HP:Hid (D.write i b=(D,23)):=by unfold Hid Dk.write;rw[if_pos h0,if_neg h1]
   have hne:((b.length:Int) !=512)=true:=by rw[bne_iff_ne];omega
   have H0:=ah h0;clear h0 h1 h hb;go_enter Tryz.func131, Tryz.ntmps131;go_wp2_with fail;refine HA.o.mono ?_;rintro e w' ⟨rfl,rfl⟩;rw[H0.o];go_wp2_with fail;go_ret;refine⟨by rw[HP.o];rfl,?_⟩;rw[HP.o];exact HH.o
 .have HP:Hid (D.write i b=(D,D.ask i)):=by unfold Hid Dk.write;rw[if_neg h0]
  have hne:(D.ask i !=0)=true:=by simpa using h0
  clear h0 h hb;go_enter Tryz.func131, Tryz.ntmps131;go_wp2_with fail;refine HA.o.mono ?_;rintro e w' ⟨rfl,rfl⟩;go_wp2_with fail;go_ret;refine⟨by rw[HP.o];rfl,?_⟩;rw[HP.o];exact HH.o
def Dk.new (n:Nat):Dk:=⟨List.replicate n ([],false),[],0,0,false⟩
end Go.Proofs.YtmbaiglpgaoogaaGreat
