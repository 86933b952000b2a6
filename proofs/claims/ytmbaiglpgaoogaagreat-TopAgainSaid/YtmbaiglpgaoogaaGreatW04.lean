/- Joined, as they were built one by one: App Octet Crc OGet Blk Blk1 Blk2 Blk3 Blk4 Blk5 ExtP AppZ OwnR Got RowCut. -/
import Derived.Laws.BitsAllLaws
import Derived.Test.YtmbaiglpgaoogaaGreatW02
import Derived.Test.YtmbaiglpgaoogaaGreatW03
set_option maxHeartbeats 16000000
set_option linter.unusedVariables false
set_option maxRecDepth 100000
namespace Go.Proofs.YtmbaiglpgaoogaaGreat
open Go.RowKit Z
section
variable {P:Program} {w0 w:World} {F:SP} {ops:Array Oper} {o:Oper} {a:Act}
theorem Sat.bm {e:TypeId} {size n:Nat} {v:Value} {xs:List Value} (h:Sat w0 (Row e size v n xs*F) w): ∃ A c,v = .slice A n c/\n<=c/\c<=maxLen:=by
 obtain⟨_,⟨e1,e2,_⟩ | ⟨g,cap,cur,e1,h1,h2,_⟩⟩:=h.cu
 .exact⟨none,0,by rw[e1,e2],by omega,Nat.zero_le _⟩
 .exact⟨_,_,e1,h1,h2⟩
theorem Sat.qu {e:TypeId} {size n:Nat} {A:Option Addr} {c:Nat} {xs:List Value} (h:Sat w0 (Row e size (.slice A n c) n xs*F) w) (hn:0<n):
 ∃ g,A=some ⟨g,0,none⟩/\ ∀ j (hj:j<xs.length),w.cell? ⟨g,j,none⟩=some xs[j]:=by
 obtain⟨hl,⟨_,e2,_⟩ | ⟨g,cap,cur,e1,h1,h2,h3,h4,h5⟩⟩:=h.cu
 .omega
 .injection e1 with e1 _ e3
  refine⟨g,e1,fun j hj=>?_⟩;rw[h5.cell];have h6:xs[j]?=some xs[j]:=List.getElem?_eq_getElem hj;rw[<-h6, <-h4,List.getElem?_take,if_pos (by omega)];simp
theorem Sat.pC {e:TypeId} {size n c g j:Nat} {xs:List Value} (h:Sat w0 (Row e size (.slice (some ⟨g,0,none⟩) n c) n xs*F) w) (u:Value):
 Sat w0 (Row e size (.slice (some ⟨g,0,none⟩) n c) n (xs.set j u)*F) (w.setCell ⟨g,j,none⟩ u):=by
 obtain⟨hl,⟨e1,e2,_⟩ | ⟨g',cap,cur,e1,h1,h2,h3,h4,h5⟩⟩:=h.cu
 .cases e1
 .injection e1 with e1 _ e3
  injection e1 with e1
  injection e1 with e1
  subst e1;subst e3;have h6:=(h5.set j u).dN (n:=n) (cap:=c) (size:=size) h1 h2 (by simpa using h3);have e:(cur.setIfInBounds j u).toList.take (n*size)=xs.set j u:=by rw[Array.toList_setIfInBounds,List.take_set,h4]
  rwa [e] at h6
theorem Sat.kF {e:TypeId} {size n c g:Nat} {xs:List Value} (h:Sat w0 (Row e size (.slice (some ⟨g,0,none⟩) n c) n xs*F) w) (j:Nat):w.frozen? ⟨g,j,none⟩=false:=by
 obtain⟨hl,⟨e1,e2,_⟩ | ⟨g',cap,cur,e1,h1,h2,h3,h4,h5⟩⟩:=h.cu
 .cases e1
 .injection e1 with e1 _ e3
  injection e1 with e1
  injection e1 with e1
  subst e1;exact h5.frozen j
theorem Sat.kx {e:TypeId} {size n c g:Nat} {xs:List Value} (h:Sat w0 (Row e size (.slice (some ⟨g,0,none⟩) n c) n xs*F) w) {j:Nat} (hj:j<xs.length):w.cell? ⟨g,j,none⟩=some xs[j]:=by
 obtain⟨hl,⟨e1,e2,_⟩ | ⟨g',cap,cur,e1,h1,h2,h3,h4,h5⟩⟩:=h.cu
 .cases e1
 .injection e1 with e1 _ e3
  injection e1 with e1
  injection e1 with e1
  subst e1;rw[h5.cell];have h6:xs[j]?=some xs[j]:=List.getElem?_eq_getElem hj;rw[<-h6, <-h4,List.getElem?_take,if_pos (by omega)];simp
theorem wI (t ty e:TypeId) (i:TypeInfo) (z:Value) (size bytes:Nat) (ht:P.underlying t=some (.slice e)) (hi:P.info? e=some i) (hz:i.zero=some z)
 (hsize:i.size=size) (hby:i.bytes=bytes) (hzs:z.cells.size=size) (hsz:0<size)
 (v:Value) (n:Nat) (xs:List Value) (hS:Sat w0 (Row e size v n xs*F) w)
 (A:Option Addr) (m c:Nat) (news:List Value) (hr:aF w A news) (hm:news.length=m*size) (h1: ∀ u ∈ news,u.oneCell'=true)
 (h63:n+m<=maxLen) (hbytes:(n+m)*bytes<=140737488355328):
 ∃ A' c' w',(Builtin.append_ #[t,t] ty #[v,.slice A m c]).run P w = .ok (.slice A' (n+m) c') w'/\Sat w0 (Row e size (.slice A' (n+m) c') (n+m) (xs++news)*F) w':=by
 obtain⟨v',w',hrun,h2⟩:=Av (P:=P) w0.heap.size t ty e i z size bytes ht hi hz hsize hby hzs hsz v n xs hS.aO A m c news hr hm h1 h63 hbytes hS.size;have h3:=hS.Cg h2;obtain⟨A',c',rfl,_⟩:=h3.bm;exact⟨A',c',w',hrun,h3⟩
theorem av {rest:List Oper} {Q:Exit->Act->World->Prop} (hgd:o.guard=none) (s x:Operand) (t:TypeId)
 (ho:o.op = .call { callee:= .builtin .append,args:= #[s,x],argTypes:= #[t,t] })
 (e:TypeId) (i:TypeInfo) (z:Value) (size bytes:Nat) (ht:P.underlying t=some (.slice e)) (hi:P.info? e=some i) (hz:i.zero=some z)
 (hsize:i.size=size) (hby:i.bytes=bytes) (hzs:z.cells.size=size) (hsz:0<size)
 (v:Value) (n:Nat) (xs:List Value) (hs:a.eval s=v) (w0:World) (F:SP) (hS:Sat w0 (Row e size v n xs*F) w)
 (A:Option Addr) (m c:Nat) (news:List Value) (hx:a.eval x = .slice A m c) (hr:aF w A news) (hm:news.length=m*size) (h1: ∀ u ∈ news,u.oneCell'=true)
 (h63:n+m<=maxLen) (hbytes:(n+m)*bytes<=140737488355328)
 (h: ∀ A' c' w',Sat w0 (Row e size (.slice A' (n+m) c') (n+m) (xs++news)*F) w'->wpList P ops Q rest (a.put o.dst (.slice A' (n+m) c')) w'):wpList P ops Q (o::rest) a w:=by
 refine wpList_plain hgd fun K hK=>?_
 obtain⟨A',c',w',hrun,h2⟩:=wI (P:=P) t o.type e i z size bytes ht hi hz hsize hby hzs hsz v n xs hS A m c news hr hm h1 h63 hbytes;unfold Oper.wp execOp;simp only[ho,resolve,invoke,builtin,Sem.run_bind,Sem.run_pure,Result.andThen_ok,List.map_toArray,List.map_cons,List.map_nil,hs,hx,hrun];exact hK _ _ (h _ _ _ h2)
theorem aQ {K:Act->World->Prop} {Q:Exit->Act->World->Prop} {E:Prop} (hgd:o.guard=none) (s x:Operand) (t:TypeId)
 (ho:o.op = .call { callee:= .builtin .append,args:= #[s,x],argTypes:= #[t,t] })
 (e:TypeId) (i:TypeInfo) (z:Value) (size bytes:Nat) (ht:P.underlying t=some (.slice e)) (hi:P.info? e=some i) (hz:i.zero=some z)
 (hsize:i.size=size) (hby:i.bytes=bytes) (hzs:z.cells.size=size) (hsz:0<size)
 (v:Value) (n:Nat) (xs:List Value) (hs:a.eval s=v) (w0:World) (F:SP) (hS:Sat w0 (Row e size v n xs*F) w)
 (A:Option Addr) (m c:Nat) (news:List Value) (hx:a.eval x = .slice A m c) (hr:aF w A news) (hm:news.length=m*size) (h1: ∀ u ∈ news,u.oneCell'=true)
 (h63:n+m<=maxLen) (hbytes:(n+m)*bytes<=140737488355328)
 (h: ∀ A' c' w',Sat w0 (Row e size (.slice A' (n+m) c') (n+m) (xs++news)*F) w'->K (a.put o.dst (.slice A' (n+m) c')) w'):
 if Region.wanted o (yielded ops a.tmps)=true then Oper.wp P o a w K Q else E:=by
 have hw:Region.wanted o (yielded ops a.tmps)=true:=by simp[Region.wanted,hgd]
 rw[if_pos hw];obtain⟨A',c',w',hrun,h2⟩:=wI (P:=P) t o.type e i z size bytes ht hi hz hsize hby hzs hsz v n xs hS A m c news hr hm h1 h63 hbytes;unfold Oper.wp execOp;simp only[ho,resolve,invoke,builtin,Sem.run_bind,Sem.run_pure,Result.andThen_ok,List.map_toArray,List.map_cons,List.map_nil,hs,hx,hrun];exact h _ _ _ h2
theorem aR (w:World) (cs:Array Value) (t:TypeId):aF (w.alloc (.cells cs t)) (some ⟨w.heap.size,0,none⟩) cs.toList:=aF.lit w cs t (0,0)
end
def jE (x w i:Nat):UInt8:=UInt8.ofNat (x / 256 ^ (w - 1 - i) % 256)
def ai (x w:Nat):List UInt8:=(List.range w).map (jE x w)
theorem aw (x w:Nat):(ai x w).length=w:=by simp[ai]
def xz (w0:World) (F:SP) (l:List UInt8) (e:Ending) (w':World):Prop:= ∃ A c,e = .returned (.slice A l.length c)/\l.length<=c/\c<=maxLen/\Sat w0 (Row 5 1 (.slice A l.length c) l.length (l.map bv)*F) w'
theorem kq:(Tryz.prog.info? 5).map (fun i=>(i.zero,i.size,i.bytes))=some (some (.int .u8 0),1,1):=by kernel_rfl
theorem xN (n:Nat) (h0:1<=n) (hn:n<=8) (W:World):(Instr.makeSlice 41 (.int .i64 (n:Int)) (.int .i64 (n:Int))).run Tryz.prog W=
 .ok (.slice (some ⟨W.heap.size,0,none⟩) n n) (W.alloc (.cells (madeCells #[.int .u8 0] n) 5)):=by
 obtain⟨i0,hi,hz0,hz1,hz2⟩:=info_parts kq;have hr:=run_make (P:= Tryz.prog) W 41 5 i0 _ Tryz.underlying41 hi hz0 .i64 .i64 n n (by omega) (by omega) (by rw[hz2];omega) (by omega);have hc:(Value.int .u8 0).cells = #[.int .u8 0]:=rfl;simpa [hz1,hc] using hr
theorem bS (x n:Nat) (hx:x<18446744073709551616) (h0:1<=n) (hn:n<=8) (w0 w:World) (F:SP) (h:Sat w0 F w):
 Calls Tryz.prog 117 #[.int .u64 (x:Int),.int .i64 (n:Int)] w (xz w0 F (ai x n)):=by
 have hmk:=xN n h0 hn;have H0:=ah (h.ab 5 (madeCells #[.int .u8 0] n));have h1:¬ (n:Int)<1:=by omega
 have h8:¬ (8:Int)<n:=by omega
 obtain⟨g,hg⟩: ∃ g,g=w.heap.size:=⟨_,rfl⟩;have HG:=ah hg;rw[<-hg] at H0;clear h hg;go_enter Tryz.func117, Tryz.ntmps117;go_wp2_with fail;rw[<-HG.o];go_loopw [0,6] (fun xv iv wr=> ∃ k i:Nat,k<=n/\k+i=n/\xv = .int .u64 ((x / 256 ^ k:Nat):Int)/\iv = .int .i64 ((i:Int) - 1)/\Hid (∃ cur:Array Value,cur.size=n/\(∀ j,i<=j->j<n->cur[j]?=some (bv (jE x n j)))/\Sat w0 (Pt g 5 cur*F) wr)) (fun _ iv _=>(intOf iv+1).toNat)
 case atStart=>exact⟨0,n,by omega,by omega,by simp,by simp,_,by simp[madeCells],fun j h2 h3=>by omega,H0.o⟩
 case round=>
  obtain⟨k,i,hk,hki,rfl,rfl,HD⟩:=hrel;rcases i with _ | i
  .go_wp2_with fail;go_ret;obtain⟨cur,hc1,hc2,hs⟩:=HD.o;have h9:=Sat.dN (n:=n) (cap:=n) (size:=1) hs (Nat.le_refl _) (by unfold maxLen;omega) (by omega);refine⟨some ⟨g,0,none⟩,n,by rw[aw];rfl,by rw[aw];exact Nat.le_refl _,by unfold maxLen;omega,h9.of ?_⟩;rw[aw];congr 2
   apply List.ext_getElem?;intro j;rw[Nat.mul_one,List.getElem?_take];by_cases hj:j<n
   .rw[if_pos hj,Array.getElem?_toList,hc2 j (by omega) hj];simp[ai,hj]
   .rw[if_neg hj];simp[ai,hj]
  .obtain⟨cur,hc1,hc2,hs⟩:=HD.o;obtain⟨Y,hY⟩: ∃ Y,Y=x / 256 ^ k:=⟨_,rfl⟩;have hYb:Y<18446744073709551616:=by rw[hY];exact Nat.lt_of_le_of_lt (Nat.div_le_self _ _) hx
   have hi:i<n:=by omega
   obtain⟨v0,c0⟩: ∃ v0,wr.cell? ⟨g,i,none⟩=some v0:=⟨cur[i],by rw[hs.cell,Array.getElem?_eq_getElem (by omega)]⟩;have f0:=hs.frozen i;have HB:Hid (bv (jE x n i) = .int .u8 ((Y:Int) % 256)):=by
    unfold bv jE;rw[show n - 1 - i=k by omega, <-hY,UInt8.toNat_ofNat',Nat.mod_mod];rw[show ((Y % 256:Nat):Int)=(Y:Int) % 256 by omega];rfl
   have HQ:Hid (((Y / 256:Nat):Int)=((x / 256 ^ (k+1):Nat):Int)):=by
    unfold Hid;rw[hY,Nat.div_div_eq_div_mul,Nat.pow_succ]
   have HN:Hid (∃ cur':Array Value,cur'.size=n/\(∀ j,i<=j->j<n->cur'[j]?=some (bv (jE x n j)))/\Sat w0 (Pt g 5 cur'*F) (wr.setCell ⟨g,i,none⟩ (.int .u8 ((Y:Int) % 256)))):=by
    refine⟨cur.setIfInBounds i (.int .u8 ((Y:Int) % 256)),by simp[hc1],fun j h2 h3=>?_,hs.set i _⟩;by_cases e:i=j
    .subst e;rw[Array.getElem?_setIfInBounds_self_of_lt (by omega),HB.o]
    .rw[Array.getElem?_setIfInBounds_ne e];exact hc2 j (by omega) h3
   have e2:((i+1:Nat):Int) - 1=(i:Int):=by omega
   rw[<-hY,e2];have e3:(i:Int)<n:=by omega
   clear hY hc1 hc2 hs HD e2;go_wp2_with fail;go_roundw
   .exact⟨k+1,i,by omega,by omega,by rw[<-HQ.o,show ((Y / 256:Nat):Int)=(Y:Int) / 256 by omega],rfl,HN.o⟩
   .simp[intOf]<;>omega
def Cp (x:Nat):Nat:=if x % 2=1 then (x / 2) ^^^ 3988292384 else x / 2
def vO:Nat->Nat->Nat
 | 0,x=>x
 | k+1,x=>Cp (vO k x)
def Ja (c:Nat) (b:UInt8):Nat:=vO 8 (c ^^^ b.toNat)
def oP (l:List UInt8):Nat:=l.foldl Ja 4294967295
def tN (l:List UInt8):Nat:=oP l ^^^ 4294967295
theorem mZ {a b:Nat} (ha:a<4294967296) (hb:b<4294967296):a ^^^ b<4294967296:=Nat.xor_lt_two_pow (n:=32) ha hb
theorem F9 {x:Nat} (h:x<4294967296):Cp x<4294967296:=by
 unfold Cp;split
 .exact mZ (by omega) (by decide)
 .omega
theorem ux {x:Nat} (h:x<4294967296): ∀ k,vO k x<4294967296
 | 0=>h
 | k+1=>F9 (ux h k)
theorem uA (b:UInt8):b.toNat<4294967296:=by have:=b.toNat_lt;omega
theorem He {c:Nat} (b:UInt8) (h:c<4294967296):Ja c b<4294967296:=ux (mZ h (uA b)) 8
theorem AI: ∀ (l:List UInt8) {c:Nat},c<4294967296->l.foldl Ja c<4294967296
 | [],_,h=>h
 | b::l,_,h=>AI l (He b h)
theorem tY (l:List UInt8):oP l<4294967296:=AI l (by decide)
theorem AA (l:List UInt8):tN l<4294967296:=mZ (tY l) (by decide)
theorem Bs (l:List UInt8) (b:UInt8):oP (l++[b])=vO 8 (oP l ^^^ b.toNat):=by
 unfold oP;rw[List.foldl_append];rfl
theorem Aa (a b:Nat) (ha:a<4294967296) (hb:b<4294967296):bits .xor .u32 (a:Int) (b:Int)=((a ^^^ b:Nat):Int):=u32_xor_nat a b ha hb
theorem Df {ks:bY} {i:Nat} (h:i<ks.length):(bK (ks.take (i+1))).flatten=(bK (ks.take i)).flatten++ks[i].2.2:=by
 rw[List.take_succ_eq_append_getElem h,jH,List.flatten_append];simp[bK]
theorem ET (p l:List UInt8) {j:Nat} (h:j<l.length):oP (p++l.take (j+1))=vO 8 (oP (p++l.take j) ^^^ l[j].toNat):=by
 rw[List.take_succ_eq_append_getElem h, <-List.append_assoc,Bs]
theorem Iv (a b:Nat) (ha:a<4294967296) (hb:b<4294967296):bits .and .u32 (a:Int) (b:Int)=((a &&& b:Nat):Int):=u32_and_nat a b ha hb
set_option maxHeartbeats 1000000 in

theorem osum_any (A:Option Addr) (c:Nat) (ks:bY) (w:World) (h:rm w A ks) (hks:ks.length<=1000000) (hl: ∀ k ∈ ks,k.2.2.length<=140737488355328):
    Calls Tryz.prog 138 #[.slice A ks.length c] w fun e w'=>e = .returned (.int .u32 (tN (bK ks).flatten:Nat))/\w'=w:=by
  have HR:=ah h
  have HLn:=ah hl
  clear h hl
  go_enter Tryz.func138, Tryz.ntmps138
  go_wp2
  go_loopw [3,10] (fun cv iv wr=> ∃ i:Nat,i<=ks.length/\cv = .int .u32 (oP (bK (ks.take i)).flatten:Nat)/\iv = .int .i64 i/\Hid (wr=w)) (fun _ iv _=>ks.length - (intOf iv).toNat)
  case atStart=>exact⟨0,by omega,rfl,rfl,rfl⟩
  case round=>
    obtain⟨i,hi,rfl,rfl,HW⟩:=hrel
    obtain rfl:=HW.o
    by_cases hlt:i<ks.length
    · obtain⟨⟨b,o,rfl,hc⟩,hx⟩:=HR.o.get hlt
      have HXr:=ah hx
      have hll:=HLn.o _ (List.getElem_mem hlt)
      have HTx:=ah (Df hlt)
      obtain⟨l,hl⟩: ∃ l,l=ks[i].2.2:=⟨_,rfl⟩
      obtain⟨p,hp⟩: ∃ p,p=(bK (ks.take i)).flatten:=⟨_,rfl⟩
      rw[<-hl] at hll HXr hc
      rw[<-hl, <-hp] at HTx
      rw[<-hp]
      clear hx hl hp
      go_wp2_with fail
      go_loopw [3,16] (fun cv jv wq=> ∃ j:Nat,j<=l.length/\cv = .int .u32 (oP (p++l.take j):Nat)/\jv = .int .i64 j/\Hid (wq=wr)) (fun _ jv _=>l.length - (intOf jv).toNat)
      case atStart=>exact⟨0,by omega,by simp,rfl,rfl⟩
      case round=>
        obtain⟨j,hj,rfl,rfl,HW2⟩:=hrel
        obtain rfl:=HW2.o
        by_cases hjl:j<l.length
        · obtain⟨b2,o2,hA,hc2⟩:=HXr.o.get hjl
          have HX:=ah (ET p l hjl)
          obtain⟨x0,hx0⟩: ∃ x0,x0=oP (p++l.take j):=⟨_,rfl⟩
          have hb0:x0<4294967296:=by rw[hx0];exact tY _
          have hxx:=Aa x0 l[j].toNat hb0 (uA _)
          have hb1:=l[j].toNat_lt
          rw[<-hx0]
          obtain⟨y,hy⟩: ∃ y,y=x0 ^^^ l[j].toNat:=⟨_,rfl⟩
          have hyb:y<4294967296:=by rw[hy];exact mZ hb0 (uA _)
          rw[<-hx0, <-hy] at HX
          rw[<-hy] at hxx
          rw[hA]
          clear hx0 hy
          go_wp2_with fail
          go_loopw [3,24] (fun cv kv wq=> ∃ k:Nat,k<=8/\cv = .int .u32 (vO k y:Nat)/\kv = .int .i64 k/\Hid (wq=wr)) (fun _ kv _=>8 - (intOf kv).toNat)
          case atStart=>exact⟨0,by omega,rfl,rfl,rfl⟩
          case round=>
            obtain⟨k,hk,rfl,rfl,HW3⟩:=hrel
            obtain rfl:=HW3.o
            by_cases hk8:k<8
            · obtain⟨z,hz⟩: ∃ z,z=vO k y:=⟨_,rfl⟩
              have hzb:z<4294967296:=by rw[hz];exact ux hyb k
              have HZ:Hid (vO (k+1) y=Cp z):=by rw[hz];rfl
              rw[<-hz]
              clear hz
              by_cases hm:z % 2=1
              · have HS1:Hid (Cp z=z / 2 ^^^ 3988292384):=if_pos hm
                have hxp:bits .xor .u32 ((z:Int) / 2) 3988292384=((z / 2 ^^^ 3988292384:Nat):Int):=by
                  have:=Aa (z / 2) 3988292384 (by omega) (by decide)
                  simpa using this
                have ha1:bits .and .u32 (z:Int) 1=1:=by
                  have:=Iv z 1 hzb (by decide)
                  rw[Nat.and_one_is_mod,hm] at this
                  simpa using this
                have ha2:bits .and .u32 3988292384 4294967295=3988292384:=by decide
                clear hm
                go_wp2_with fail
                go_roundw
                · exact⟨k+1,by omega,by rw[HZ.o,HS1.o],by push_cast;rfl,by first | trivial | exact rfl⟩
                · simp[intOf];omega
              · have HS1:Hid (Cp z=z / 2):=if_neg hm
                have ha1:bits .and .u32 (z:Int) 1=0:=by
                  have:=Iv z 1 hzb (by decide)
                  rw[Nat.and_one_is_mod,show z % 2=0 by omega] at this
                  simpa using this
                have ha2:bits .and .u32 3988292384 0=0:=by decide
                have ha3:bits .xor .u32 ((z:Int) / 2) 0=((z / 2:Nat):Int):=by
                  have:=Aa (z / 2) 0 (by omega) (by decide)
                  simpa using this
                clear hm
                go_wp2_with fail
                go_roundw
                · exact⟨k+1,by omega,by rw[HZ.o,HS1.o,show ((z / 2:Nat):Int)=(z:Int) / 2 by omega],by push_cast;rfl,by first | trivial | exact rfl⟩
                · simp[intOf];omega
            · have hk9:k=8:=by omega
              subst hk9
              go_wp2_with fail
              go_roundw
              · exact⟨j+1,by omega,by rw[HX.o],by push_cast;rfl,by first | trivial | exact rfl⟩
              · simp[intOf];omega
        · have hall:l.take j=l:=List.take_of_length_le (by omega)
          rw[hall]
          clear hall
          go_wp2_with fail
          go_roundw
          · exact⟨i+1,by omega,by rw[HTx.o],by push_cast;rfl,by first | trivial | exact rfl⟩
          · simp[intOf];omega
    · have hall:ks.take i=ks:=List.take_of_length_le (by omega)
      have hxl:bits .xor .u32 IntKind.u32.max ((oP (bK ks).flatten:Nat):Int)=((tN (bK ks).flatten:Nat):Int):=by
        have h1:=Aa 4294967295 (oP (bK ks).flatten) (by decide) (tY _)
        rw[Nat.xor_comm] at h1
        exact h1
      rw[hall]
      clear hall
      go_wp2_with fail
      go_ret
      exact⟨rfl,rfl⟩
def bu (l:List UInt8):Nat:=l.foldl (fun x b=>x*256+b.toNat) 0
theorem su (l:List UInt8) (b:UInt8):bu (l++[b])=bu l*256+b.toNat:=by
 unfold bu;rw[List.foldl_append];rfl
theorem CV {l:List UInt8} {i:Nat} (h:i<l.length):bu (l.take (i+1))=bu (l.take i)*256+l[i].toNat:=by
 rw[List.take_succ_eq_append_getElem h,su]
theorem AT: ∀ (l:List UInt8) (c:Nat),l.foldl (fun x b=>x*256+b.toNat) c<(c+1)*256 ^ l.length
 | [],c=>by simp
 | b::l,c=>by
  have h1:=AT l (c*256+b.toNat);have h2:=b.toNat_lt;rw[List.foldl_cons,List.length_cons,Nat.pow_succ];refine Nat.lt_of_lt_of_le h1 ?_;rw[Nat.mul_comm (256 ^ l.length) 256, <-Nat.mul_assoc];exact Nat.mul_le_mul_right _ (by omega)
theorem iB (l:List UInt8):bu l<256 ^ l.length:=by simpa [bu] using AT l 0
theorem kZ (l:List UInt8) (h:l.length<=8):bu l<18446744073709551616:=
 Nat.lt_of_lt_of_le (iB l) (Nat.le_trans (Nat.pow_le_pow_right (by decide) h) (by decide))
theorem sC (l:List UInt8) (h:l.length<=7):bu l<72057594037927936:=
 Nat.lt_of_lt_of_le (iB l) (Nat.le_trans (Nat.pow_le_pow_right (by decide) h) (by decide))
theorem KL (x b:Nat) (hx:x<72057594037927936) (hb:b<256):bits .or .u64 ((x:Int)*256) (b:Int)=((x*256+b:Nat):Int):=by
 have h1:=u64_or_nat (x*256) b (by omega) (by omega);have h2:x*256 ||| b=x*256+b:=by
  have:=Nat.shiftLeft_add_eq_or_of_lt (b:=b) (i:=8) (by simpa using hb) x;rw[Nat.shiftLeft_eq] at this;exact this.symm
 rw[h2] at h1;rw[<-h1];push_cast;rfl
theorem xx (A:Option Addr) (c:Nat) (l:List UInt8) (w:World) (h:Rd w A l) (hl:l.length<=8):
 Calls Tryz.prog 105 #[.slice A l.length c] w fun e w'=>e = .returned (.int .u64 (bu l:Nat))/\w'=w:=by
 have HR:=ah h;clear h;go_enter Tryz.func105, Tryz.ntmps105;go_wp2;go_loopw [3,8] (fun cv iv wr=> ∃ i:Nat,i<=l.length/\cv = .int .u64 (bu (l.take i):Nat)/\iv = .int .i64 i/\Hid (wr=w)) (fun _ iv _=>l.length - (intOf iv).toNat)
 case atStart=>exact⟨0,by omega,rfl,rfl,rfl⟩
 case round=>
  obtain⟨i,hi,rfl,rfl,HW⟩:=hrel;obtain rfl:=HW.o;by_cases hlt:i<l.length
  .obtain⟨b,o,rfl,hc⟩:=HR.o.get hlt;have HX:=ah (CV hlt);have hb:=sC (l.take i) (by rw[List.length_take];omega);have hb1:=l[i].toNat_lt;have ho:=KL (bu (l.take i)) l[i].toNat hb hb1;have hw:IntKind.u64.wrap ((bu (l.take i):Int)*256)=(bu (l.take i):Int)*256:=by rw[IntKind.wrap_u64];omega
   generalize bu (l.take i)=x0 at*
   go_wp2_with fail;go_roundw
   .exact⟨i+1,by omega,by rw[HX.o];push_cast;rfl,by push_cast;rfl,by first | trivial | exact rfl⟩
   .simp[intOf];omega
  .have hall:l.take i=l:=List.take_of_length_le (by omega);rw[hall];clear hall;go_wp2_with fail;go_ret;exact⟨rfl,rfl⟩
theorem Cu (x n:Nat):ai x (n+1)=ai (x / 256) n++[UInt8.ofNat (x % 256)]:=by
 unfold ai;rw[List.range_succ,List.map_append];congr 1
 .refine List.map_congr_left fun i hi=>?_
  have hi:=List.mem_range.1 hi;unfold jE;rw[Nat.div_div_eq_div_mul,show n+1 - 1 - i=(n - 1 - i)+1 by omega,Nat.pow_succ,Nat.mul_comm 256]
 .simp[jE]
theorem jN: ∀ (n x:Nat),bu (ai x n)=x % 256 ^ n
 | 0,x=>by simp[ai,bu,Nat.mod_one]
 | n+1,x=>by
  rw[Cu,su,jN n (x / 256),Nat.pow_succ,UInt8.toNat_ofNat',Nat.mod_mod,Nat.mul_comm (256 ^ n) 256,Nat.mod_mul];omega
structure Dk where
 cells:List (List UInt8 × Bool)
 pend:List (Nat × List UInt8)
 armed:Nat
 writes:Nat
 off:Bool
def Dc (s:du):Value:= .slice s.1 s.2.2.length s.2.1
def iR (x:du × Bool):List Value:=[Dc x.1,.bool x.2]
def nN (x:Nat × du):List Value:=[.int .i64 x.1,Dc x.2]
def lU (ps:List (Nat × du)):Int->Option Value:=fun i=>((ps.reverse.find? fun x=>((x.1:Nat):Int)==i).map fun x=>Dc x.2)
def fit (s:du):Prop:=(s.1=none->s.2.2=[]/\s.2.1=0)/\(s.2.2=[]->s.1=none)/\s.2.2.length<=s.2.1/\s.2.1<=9223372036854775807
structure Ks (D:Dk) (cs:List (du × Bool)) (ps:List (Nat × du)):Prop where
 cells:D.cells=cs.map fun x=>(x.1.2.2,x.2)
 pend:D.pend=ps.map fun x=>(x.1,x.2.2.2)
 fitc: ∀ x ∈ cs,fit x.1/\(x.1.2.2=[]\/x.1.2.2.length=512)
 fitp: ∀ x ∈ ps,fit x.2/\x.2.2.2.length=512/\x.1<cs.length
 two:2<=cs.length
 aG:cs.length<=65536
def dZ (d C cc M nm:Nat) (vp:Value) (cs:List (du × Bool)) (ps:List (Nat × du)) (armed writes:Nat) (off:Bool):SP:=
 Pt d 101 #[.slice (some ⟨C,0,none⟩) cs.length cc,vp,.map (some M),.int .i64 armed,.int .i64 writes,.bool off]*
 (Row 142 2 (.slice (some ⟨C,0,none⟩) cs.length cc) cs.length (cs.flatMap iR)*
 (Row 140 2 vp ps.length (ps.flatMap nN)*
 (bT Tryz.prog 3 M nm (lU ps)*
 cd (cs.map (·.1)++ps.map (·.2)))))
def af (d:Nat) (D:Dk):SP:=fun h=> ∃ C cc M nm vp cs ps,Ks D cs ps/\nm<=ps.length/\dZ d C cc M nm vp cs ps D.armed D.writes D.off h
section
variable {w0 w:World} {F:SP} {d C cc M nm armed writes:Nat} {vp:Value} {cs:List (du × Bool)} {ps:List (Nat × du)} {off:Bool} {D:Dk}
theorem Sat.uh (h:Sat w0 (af d D*F) w): ∃ C cc M nm vp cs ps,Ks D cs ps/\nm<=ps.length/\Sat w0 (dZ d C cc M nm vp cs ps D.armed D.writes D.off*F) w:=by
 obtain⟨c,x,h1,a,g,h2,h3,⟨C,cc,M,nm,vp,cs,ps,h4,h5,h6⟩,h8⟩:=h;exact⟨C,cc,M,nm,vp,cs,ps,h4,h5,⟨c,x,h1,a,g,h2,h3,h6,h8⟩⟩
theorem Sat.td (h:Sat w0 (dZ d C cc M nm vp cs ps D.armed D.writes D.off*F) w) (hr:Ks D cs ps) (hn:nm<=ps.length):Sat w0 (af d D*F) w:=by
 obtain⟨c,x,h1,a,g,h2,h3,h6,h8⟩:=h;exact⟨c,x,h1,a,g,h2,h3,⟨C,cc,M,nm,vp,cs,ps,hr,hn,h6⟩,h8⟩
theorem dc:dZ d C cc M nm vp cs ps armed writes off*F=Pt d 101 #[.slice (some ⟨C,0,none⟩) cs.length cc,vp,.map (some M),.int .i64 armed,.int .i64 writes,.bool off]*
 (Row 142 2 (.slice (some ⟨C,0,none⟩) cs.length cc) cs.length (cs.flatMap iR)*(Row 140 2 vp ps.length (ps.flatMap nN)*(bT Tryz.prog 3 M nm (lU ps)*(cd (cs.map (·.1)++ps.map (·.2))*F)))):=by
 unfold dZ;ac_rfl
end
def Dk.ask (D:Dk) (i:Int):Int:=if D.off then 21 else if 0<=i/\i<D.cells.length then 0 else 22
theorem Dk.Dl {D:Dk} {i:Int} (h1:D.off=false) (h2:0<=i) (h3:i<D.cells.length):D.ask i=0:=by unfold Dk.ask;rw[if_neg (by simp[h1]),if_pos ⟨h2,h3⟩]
structure Head (w:World) (d C cc:Nat) (cs:List (du × Bool)) (vp:Value) (M armed writes:Nat) (off:Bool):Prop where
 c0:w.cell? ⟨d,0,none⟩=some (.slice (some ⟨C,0,none⟩) cs.length cc)
 c1:w.cell? ⟨d,1,none⟩=some vp
 c2:w.cell? ⟨d,2,none⟩=some (.map (some M))
 c3:w.cell? ⟨d,3,none⟩=some (.int .i64 armed)
 c4:w.cell? ⟨d,4,none⟩=some (.int .i64 writes)
 c5:w.cell? ⟨d,5,none⟩=some (.bool off)
section
variable {w0 w:World} {F:SP} {d C cc M nm armed writes:Nat} {vp:Value} {cs:List (du × Bool)} {ps:List (Nat × du)} {off:Bool} {D:Dk}
theorem Sat.head (h:Sat w0 (dZ d C cc M nm vp cs ps armed writes off*F) w):Head w d C cc cs vp M armed writes off:=by
 have h1:=h.of dc;exact⟨h1.cell 0,h1.cell 1,h1.cell 2,h1.cell 3,h1.cell 4,h1.cell 5⟩
theorem Sat.zN (h:Sat w0 (dZ d C cc M nm vp cs ps armed writes off*F) w) {k:Nat} (hk:k<cs.length):w.cell? ⟨C,k*2,none⟩=some (Dc cs[k].1)/\w.cell? ⟨C,k*2+1,none⟩=some (.bool cs[k].2):=by
 have h1:=(h.of dc).ay;have hl:=dv (f:=iR) (fun _=>rfl) cs;have e0:=nY (f:=iR) (fun _=>rfl) cs k 0 hk (by omega);have e1:=nY (f:=iR) (fun _=>rfl) cs k 1 hk (by omega);rw[List.getElem?_eq_getElem (by omega)] at e0 e1;refine⟨?_,?_⟩
 .rw[h1.kx (j:=k*2) (by omega)];exact e0
 .rw[h1.kx (j:=k*2+1) (by omega)];exact e1
theorem Sat.rO (h:Sat w0 (dZ d C cc M nm vp cs ps armed writes off*F) w) (i:Nat):w.frozen? ⟨C,i,none⟩=false:=((h.of dc).ay).kF i
theorem Sat.sV (h:Sat w0 (dZ d C cc M nm vp cs ps armed writes off*F) w) (i:Nat):w.frozen? ⟨d,i,none⟩=false:=(h.of dc).frozen i
end
section
variable {w0 w:World} {F:SP} {d C cc M nm armed writes:Nat} {vp:Value} {cs:List (du × Bool)} {ps:List (Nat × du)} {off:Bool} {D:Dk}
theorem Sat.vC (h:Sat w0 (dZ d C cc M nm vp cs ps armed writes off*F) w) (a:Nat) {x:Int} (hx:x=a):Sat w0 (dZ d C cc M nm vp cs ps a writes off*F) (w.setCell ⟨d,3,none⟩ (.int .i64 x)):=by
 subst hx;exact(((h.of dc).set 3 (.int .i64 a)).of (dc (F:=F) (d:=d) (C:=C) (cc:=cc) (M:=M) (nm:=nm) (vp:=vp) (cs:=cs) (ps:=ps) (armed:=a) (writes:=writes) (off:=off)).symm)
theorem Sat.nE (h:Sat w0 (dZ d C cc M nm vp cs ps armed writes off*F) w) (a:Nat) {x:Int} (hx:x=a):Sat w0 (dZ d C cc M nm vp cs ps armed a off*F) (w.setCell ⟨d,4,none⟩ (.int .i64 x)):=by
 subst hx;exact(((h.of dc).set 4 (.int .i64 a)).of (dc (F:=F) (d:=d) (C:=C) (cc:=cc) (M:=M) (nm:=nm) (vp:=vp) (cs:=cs) (ps:=ps) (armed:=armed) (writes:=a) (off:=off)).symm)
theorem Sat.IT (h:Sat w0 (dZ d C cc M nm vp cs ps armed writes off*F) w) (a:Bool):Sat w0 (dZ d C cc M nm vp cs ps armed writes a*F) (w.setCell ⟨d,5,none⟩ (.bool a)):=
 (((h.of dc).set 5 (.bool a)).of (dc (F:=F) (d:=d) (C:=C) (cc:=cc) (M:=M) (nm:=nm) (vp:=vp) (cs:=cs) (ps:=ps) (armed:=armed) (writes:=writes) (off:=a)).symm)
end
theorem rA (d:Nat) (D:Dk) (i:Int) (w0 w:World) (F:SP) (h:Sat w0 (af d D*F) w):
 Calls Tryz.prog 156 #[.pointer (some ⟨d,0,none⟩),.int .i64 i] w fun e w'=>e = .returned (.int .i64 (D.ask i))/\w=w':=by
 obtain⟨C,cc,M,nm,vp,cs,ps,hr,hn,hs⟩:=h.uh;have hc0:=hs.head.c0;have hc5:=hs.head.c5;have hl:D.cells.length=cs.length:=by rw[hr.cells];simp
 have H1:Hid (D.ask i=if D.off then 21 else if 0<=i/\i<cs.length then 0 else 22):=by unfold Dk.ask Hid;rw[hl]
 clear hr hn hs h hl;by_cases ho:D.off=true
 .rw[ho] at hc5;have HO:=ah ho;clear ho;go_enter Tryz.func156, Tryz.ntmps156;go_wp2;go_ret;exact⟨by rw[H1.o,if_pos HO.o];rfl,rfl⟩
 .have ho':D.off=false:=by simpa using ho
  rw[ho'] at hc5;have HO:=ah ho;clear ho ho';by_cases h1:i<0
  .go_enter Tryz.func156, Tryz.ntmps156;go_wp2;go_ret;exact⟨by rw[H1.o,if_neg HO.o,if_neg (by omega)];rfl,rfl⟩
  .by_cases h2:(cs.length:Int)<=i
   .go_enter Tryz.func156, Tryz.ntmps156;go_wp2;go_ret;exact⟨by rw[H1.o,if_neg HO.o,if_neg (by omega)];rfl,rfl⟩
   .go_enter Tryz.func156, Tryz.ntmps156;go_wp2;go_ret;exact⟨by rw[H1.o,if_neg HO.o,if_pos (by omega)];rfl,rfl⟩
theorem gy (d:Nat) (D:Dk) (w0 w:World) (F:SP) (h:Sat w0 (af d D*F) w):
 Calls Tryz.prog 51 #[.pointer (some ⟨d,0,none⟩)] w fun e w'=>e = .returned (.int .i64 D.cells.length)/\w=w':=by
 obtain⟨C,cc,M,nm,vp,cs,ps,hr,hn,hs⟩:=h.uh;have hc0:=hs.head.c0;have HL:Hid (D.cells.length=cs.length):=by rw[hr.cells];unfold Hid;simp
 clear hr hn hs h;go_enter Tryz.func51, Tryz.ntmps51;go_wp2;go_ret;exact⟨by rw[HL.o];rfl,rfl⟩
theorem Ao (d:Nat) (D:Dk) (w0 w:World) (F:SP) (h:Sat w0 (af d D*F) w):
 Calls Tryz.prog 40 #[.pointer (some ⟨d,0,none⟩)] w fun e w'=>e = .returned (.bool D.off)/\w=w':=by
 obtain⟨C,cc,M,nm,vp,cs,ps,hr,hn,hs⟩:=h.uh;have hc5:=hs.head.c5;clear hr hn hs h;go_enter Tryz.func40, Tryz.ntmps40;go_wp2;go_ret;exact⟨rfl,rfl⟩
theorem vw (d:Nat) (D:Dk) (w0 w:World) (F:SP) (h:Sat w0 (af d D*F) w):
 Calls Tryz.prog 79 #[.pointer (some ⟨d,0,none⟩)] w fun e w'=>e = .returned (.tuple #[])/\Sat w0 (af d { D with pend:=[] }*F) w':=by
 obtain⟨C,cc,M,nm,vp,cs,ps,hr,hn,hs⟩:=h.uh;have hc1:=hs.head.c1;have hc2:=hs.head.c2;have hf1:=hs.sV 1;have h1:=(hs.of dc).set 1 (.slice none 0 0);have h2:=h1.bL;obtain⟨w2,hrun,hs2,_⟩:=h2.Bt (t:= 98) Tryz.underlying98 0;have HE:Hid (Sat w0 (af d { D with pend:=[] }*F) w2):=by
  have h3:=hs2.KR.bp.right.bL.ij (rs':=cs.map (·.1)++([]:List (Nat × du)).map (·.2)) (fun r hr=>List.mem_append_left _ (by simpa using hr));have h4:=(h3.KR.aN 140 2).K9;exact Sat.td (D:={ D with pend:=[] }) (ps:=[]) (h4.of (dc (F:=F) (d:=d) (C:=C) (cc:=cc) (M:=M) (nm:=0) (vp:= .slice none 0 0) (cs:=cs) (ps:=[]) (armed:=D.armed) (writes:=D.writes) (off:=D.off)).symm) ⟨hr.cells,rfl,hr.fitc,by simp,hr.two,hr.aG⟩ (Nat.le_refl _)
 clear hr hn hs h h1 h2 hs2;go_enter Tryz.func79, Tryz.ntmps79;go_wp2;go_end0
 exact⟨rfl,HE.o⟩
def Dk.last (D:Dk) (i:Int):Option (List UInt8):=(D.pend.reverse.find? fun x=>((x.1:Nat):Int)==i).map fun x=>x.2
def Dk.read (D:Dk) (i:Int):List UInt8 × Int:=
 if D.ask i=0 then
  match D.last i with
  | some b=>(b,0)
  | none=>match D.cells[i.toNat]? with
   | some (b,t)=>if t then ([],24) else if b=[] then (List.replicate 512 0,0) else (b,0)
   | none=>([],0)
 else ([],D.ask i)
theorem zc (ps:List (Nat × du)) (i:Int):((ps.map fun x=>(x.1,x.2.2.2)).reverse.find? fun x=>((x.1:Nat):Int)==i)=(ps.reverse.find? fun x=>((x.1:Nat):Int)==i).map fun x=>(x.1,x.2.2.2):=by
 rw[<-List.map_reverse,List.find?_map];rfl
theorem Gt (w:World):(zeroValue 41).run Tryz.prog w = .ok (.slice none 0 0) w:=by kernel_rfl
def Fp (d:Nat) (D:Dk) (i:Int) (w0:World) (F:SP) (e:Ending) (w':World):Prop:=
 ∃ v,e = .returned (.tuple #[v,.int .i64 (D.read i).2])/\Sat w0 (Row 5 1 v (D.read i).1.length ((D.read i).1.map bv)*(af d D*F)) w'
theorem pR (d:Nat) (D:Dk) (i:Int) (w0 w:World) (F:SP) (h:Sat w0 (af d D*F) w):
 Calls Tryz.prog 128 #[.pointer (some ⟨d,0,none⟩),.int .i64 i] w (Fp d D i w0 F):=by
 have HA:=ah (rA d D i w0 w F h);obtain⟨C,cc,M,nm,vp,cs,ps,hr,hn,hs⟩:=h.uh;have HH:=ah h;by_cases h0:D.ask i=0
 .have hb:0<=i/\i<cs.length/\D.off=false:=by
   unfold Dk.ask at h0;have:D.cells.length=cs.length:=by rw[hr.cells];simp
   rw[this] at h0;split at h0
   .omega
   .split at h0
    .rename_i h1 h2;exact⟨h2.1,h2.2,by simpa using h1⟩
    .omega
  obtain⟨hb1,hb2,_⟩:=hb;obtain⟨k,rfl⟩: ∃ k:Nat,i=k:=⟨i.toNat,by omega⟩;have hk:k<cs.length:=by omega
  have HR:Hid (D.read k=match D.last k with
   | some b=>(b,0)
   | none=>if cs[k].2 then ([],24) else if cs[k].1.2.2=[] then (List.replicate 512 0,0) else (cs[k].1.2.2,0)):=by
   unfold Hid Dk.read;rw[if_pos h0,hr.cells];have e:(List.map (fun x:du × Bool=>(x.1.2.2,x.2)) cs)[(k:Int).toNat]?=some (cs[k].1.2.2,cs[k].2):=by rw[Int.toNat_natCast,List.getElem?_map,List.getElem?_eq_getElem hk];rfl
   rw[e]
  have HL:Hid (D.last k=(ps.reverse.find? fun x=>((x.1:Nat):Int)==k).map fun x=>x.2.2.2):=by
   unfold Hid Dk.last;rw[hr.pend,zc]
   cases (ps.reverse.find? fun x=>((x.1:Nat):Int)==k)<;>rfl
  have hc0:=hs.head.c0;have hc2:=hs.head.c2;have hm:=(hs.of dc).bL;have hl:=Sat.qv hm Tryz.underlying3 (t:= 98) Tryz.underlying98 (Gt w) k (by have:=hr.aG;omega);have hx:=hr.fitc cs[k] (List.getElem_mem hk);obtain⟨q0,q1⟩:=hs.zN hk;have HRd:=ah fun (r:du) (hr:r ∈ cs.map (·.1)++ps.map (·.2))=>(hs.of dc).fN.F4 hr
  have HFp:=ah hr.fitp;have HK:=ah (List.getElem_mem hk);have HX:=ah hx;have H0:=ah h0;have hnil:=fun (W:World) (A:Option Addr) (n c:Nat)=>run_neq_slice_nil_any (P:= Tryz.prog) W 41 5 A n c 0 0 Tryz.underlying41
  clear hr hn hs h hx hm h0;generalize cs[k]=x at*
  obtain⟨⟨Ax,cx,lx⟩,tx⟩:=x;simp only[Dc] at q0 q1;unfold lU at hl
  cases hf:ps.reverse.find? fun x=>((x.1:Nat):Int)==k with
  | some p=>
   rw[hf] at hl HL;simp only[Option.map_some,Option.getD_some,Option.isSome_some,Dc] at hl;have hp:p ∈ ps:=by have:=List.mem_of_find?_eq_some hf;simpa using this
   have HP:Hid (D.read k=(p.2.2.2,0)):=by have h1:=HR.o;rw[show D.last k=some p.2.2.2 from HL.o] at h1;exact h1
   have HC:=ah (ez p.2.1 p.2.2.1 p.2.2.2 w (HRd.o p.2 (List.mem_append_right _ (List.mem_map_of_mem hp))) (by have:=(HFp.o p hp).2.1;omega));clear hf hp;generalize p.2=y at*
   obtain⟨Ay,cy,ly⟩:=y;go_enter Tryz.func128, Tryz.ntmps128;go_wp2_with fail;refine HA.o.mono ?_;rintro e w' ⟨rfl,rfl⟩;rw[H0.o];go_wp2_with fail;refine HC.o.mono ?_;rintro e w' ⟨v,rfl,hown,_,hchg⟩;have HO:=ah hown;have HG:=ah hchg;clear hown hchg;go_wp2_with fail;go_ret2;refine⟨v,by rw[HP.o];rfl,?_⟩;rw[HP.o];exact HH.o.dP HG.o HO.o
  | none=>
   rw[hf] at hl HL;simp only[Option.map_none,Option.getD_none,Option.isSome_none] at hl;have HL2:Hid (D.last k=none):=HL.o;clear HL hf
   cases tx with
   | true=>
    have HP:Hid (D.read k=([],24)):=by have h1:=HR.o;rw[HL2.o] at h1;exact h1
    go_enter Tryz.func128, Tryz.ntmps128;go_wp2_with fail;refine HA.o.mono ?_;rintro e w' ⟨rfl,rfl⟩;rw[H0.o];go_wp2_with fail;go_ret2;refine⟨.slice none 0 0,by rw[HP.o];rfl,?_⟩;rw[HP.o];exact(HH.o.aD _).aN _ 1
   | false=>
    have hft:=HX.o.1;by_cases hn0:lx=[]
    .have HP:Hid (D.read k=(List.replicate 512 0,0)):=by have h1:=HR.o;rw[HL2.o] at h1;simp only[Bool.false_eq_true,if_false] at h1;rw[if_pos hn0] at h1;exact h1
     obtain rfl:Ax=none:=hft.2.1 hn0;have HN:=ah hn0;have hmk:=F0;clear hn0 hft;go_enter Tryz.func128, Tryz.ntmps128;go_wp2_with fail;refine HA.o.mono ?_;rintro e w' ⟨rfl,rfl⟩;rw[H0.o];go_wp2_with fail;go_ret2;refine⟨_,by rw[HP.o];rfl,?_⟩;rw[HP.o];exact CX ((HH.o.aD _).bO _ (fV 512) (by simp)) (by decide)
    .have HP:Hid (D.read k=(lx,0)):=by have h1:=HR.o;rw[HL2.o] at h1;simp only[Bool.false_eq_true,if_false] at h1;rw[if_neg hn0] at h1;exact h1
     rcases Ax with _ | ax
     .exact absurd (hft.1 rfl).1 hn0
     have HC:=ah fun (W:World) (hW:ao No w W)=>ez (some ax) cx lx W ((HRd.o (some ax,cx,lx) (List.mem_append_left _ (List.mem_map_of_mem (f:=Prod.fst) HK.o))).new hW) (by have:=hft.2.2;have:=HX.o.2;rcases this with h | h;exact absurd h hn0;show lx.length<=_;have h':lx.length=512:=h;omega)
     clear hn0 hft;go_enter Tryz.func128, Tryz.ntmps128;go_wp2_with fail;refine HA.o.mono ?_;rintro e w' ⟨rfl,rfl⟩;rw[H0.o];go_wp2_with fail;refine(HC.o _ ((ao.refl No w).alloc _)).mono ?_;rintro e w' ⟨v,rfl,hown,_,hchg⟩;have HO:=ah hown;have HG:=ah hchg;clear hown hchg;go_wp2_with fail;go_ret2;refine⟨v,by rw[HP.o];rfl,?_⟩;rw[HP.o];exact(HH.o.aD _).dP HG.o HO.o
 .go_enter Tryz.func128, Tryz.ntmps128;have h0':(D.ask i !=0)=true:=by simpa using h0
  have H0:=ah h0;clear h0 hr hn hs h;go_wp2_with fail;refine HA.o.mono ?_;rintro e w' ⟨rfl,rfl⟩;go_wp2_with fail;go_ret2;refine⟨.slice none 0 0,?_,?_⟩
  .rw[Dk.read,if_neg H0.o];rfl
  .rw[Dk.read,if_neg H0.o];exact HH.o.aN _ 1
def Dk.dC (D:Dk) (i:Nat) (b:List UInt8):Dk:=⟨D.cells,D.pend++[(i,b)],D.armed - 1,D.writes+1,if D.armed=1 then true else D.off⟩
def Dk.write (D:Dk) (i:Int) (b:List UInt8):Dk × Int:=
 if D.ask i=0 then
  if b.length=512 then (D.dC i.toNat b,if D.armed=1 then 21 else 0) else (D,23)
 else (D,D.ask i)
theorem yC:(Tryz.prog.info? 140).map (fun i=>(i.zero,i.size,i.bytes))=some (some (.agg #[.int .i64 0,.slice none 0 0]),2,32):=by kernel_rfl
theorem xj (ps:List (Nat × du)) (i:Nat) (y:du):lU (ps++[(i,y)])=F5 (lU ps) i (Dc y):=by
 funext j
 unfold lU F5;rw[List.reverse_append];simp only[List.reverse_cons,List.reverse_nil,List.nil_append,List.singleton_append,List.find?_cons];by_cases h:j=(i:Int)
 .subst h;simp
 .have:(((i:Nat):Int)==j)=false:=by simpa using fun e=>h e.symm
  rw[this,if_neg h]
theorem BC {d C cc M nm k armed writes:Nat} {A2 A3:Option Addr} {c2 c3:Nat} {cs:List (du × Bool)} {ps:List (Nat × du)} {off:Bool} {b:List UInt8} {F G:SP}:
 bT Tryz.prog 3 M (nm+1) (F5 (lU ps) k (.slice A2 b.length c2))*(Pt d 101 #[.slice (some ⟨C,0,none⟩) cs.length cc,.slice A3 (ps.length+1) c3,.map (some M),.int .i64 armed,.int .i64 writes,.bool off]*
  (Row 140 2 (.slice A3 (ps.length+1) c3) (ps.length+1) (ps.flatMap nN++[.int .i64 k,.slice A2 b.length c2])*(Row 142 2 (.slice (some ⟨C,0,none⟩) cs.length cc) cs.length (cs.flatMap iR)*(cd (cs.map (·.1)++ps.map (·.2))*(G*(Ro A2 (b.map bv)*F))))))=
 G*(dZ d C cc M (nm+1) (.slice A3 (ps.length+1) c3) cs (ps++[(k,(A2,c2,b))]) armed writes off*F):=by
 have e1:Ro A2 (b.map bv)=cd [(A2,c2,b)]:=qN (A2,c2,b);have e2:cd (cs.map (·.1)++(ps++[(k,(A2,c2,b))]).map (·.2))=cd (cs.map (·.1)++ps.map (·.2))*cd [(A2,c2,b)]:=by
  rw[List.map_append, <-List.append_assoc, <-ir];rfl
 unfold dZ;rw[e1,e2,xj,List.flatMap_append,List.length_append];show _=G*((_*(_*(Row _ 2 _ (ps.length+1) (_++[.int .i64 k,.slice A2 b.length c2])*(bT _ _ _ _ (F5 _ _ (.slice A2 b.length c2))*(_*_)))))*F)
 ac_rfl
def zC (d:Nat) (D:Dk) (i:Int) (b:List UInt8) (w0:World) (F:SP) (e:Ending) (w':World):Prop:=
 e = .returned (.int .i64 (D.write i b).2)/\Sat w0 (af d (D.write i b).1*F) w'
theorem sh (d:Nat) (D:Dk) (i:Int) (A:Option Addr) (c:Nat) (b:List UInt8) (w0 w:World) (F:SP) (h:Sat w0 (af d D*F) w) (hb:Rd w A b) (hbl:b.length<=140737488355328)
 (hw1:D.writes<=1000000000) (hw2:D.pend.length<=1000000000) (hw3:D.armed<=9223372036854775807):
 Calls Tryz.prog 131 #[.pointer (some ⟨d,0,none⟩),.int .i64 i,.slice A b.length c] w (zC d D i b w0 F):=by
 have HA:=ah (rA d D i w0 w F h);have HH:=ah h;by_cases h0:D.ask i=0
 .by_cases h1:b.length=512
  .obtain⟨C,cc,M,nm,vp,cs,ps,hr,hn,hs⟩:=h.uh;have hi:0<=i/\i<cs.length/\D.off=false:=by
    unfold Dk.ask at h0;have:D.cells.length=cs.length:=by rw[hr.cells];simp
    rw[this] at h0;split at h0
    .omega
    .split at h0
     .rename_i h1 h2;exact⟨h2.1,h2.2,by simpa using h1⟩
     .omega
   obtain⟨hi1,hi2,_⟩:=hi;obtain⟨k,rfl⟩: ∃ k:Nat,i=k:=⟨i.toNat,by omega⟩;have HP:Hid (D.write k b=(D.dC k b,if D.armed=1 then 21 else 0)):=by unfold Hid Dk.write;rw[if_pos h0,if_pos h1];rfl
   obtain⟨A1,c1,rfl,_,_⟩:=(hs.of dc).bp.bm;have hc1:=hs.head.c1;have hf1:=hs.sV 1;have HC:=ah (ez A c b w hb hbl);have hpl:D.pend.length=ps.length:=by rw[hr.pend];simp
   rw[hpl] at hw2;obtain⟨i0,hi,hz0,hz1,hz2⟩:=info_parts yC;have H0:=ah h0;have H1:=ah h1;have HR:=ah hr;have HN:=ah hn;have HS:=ah hs;have hne:((b.length:Int) !=512)=false:=by rw[h1];rfl
   clear h0 h1 hr hn hs h hb hpl;go_enter Tryz.func131, Tryz.ntmps131;go_wp2_with fail;refine HA.o.mono ?_;rintro e w' ⟨rfl,rfl⟩;rw[H0.o];go_wp2_with fail;refine HC.o.mono ?_;rintro e w1 ⟨v,rfl,hown,hvn,hchg⟩;obtain⟨A2,c2,rfl,hc2,hc3,hs1⟩:=HS.o.Km hchg hown;have HS1:=ah hs1;have HC2:=ah (And.intro hc2 hc3);have HF2:Hid (A2=none->b=[]):=fun e=>by subst e;have:=hs1.rdv;by_cases hb0:b=[];exact hb0;obtain⟨_,_,e,_⟩:=this (by simpa using hb0);cases e
   clear hown hchg hs1 hvn hc2 hc3;have hq1:=(HS1.o.right).head.c1;have hg1:=(HS1.o.right).sV 1;clear hc1 hf1;go_wp2_with fail;have hs2:=HS1.o.ab 140 #[.int .i64 k,.slice A2 b.length c2];obtain⟨w2,hw2'⟩: ∃ w2,w2=w1.alloc (.cells #[.int .i64 k,.slice A2 b.length c2] 140):=⟨_,rfl⟩;obtain⟨g,hg⟩: ∃ g,g=w1.heap.size:=⟨_,rfl⟩;rw[<-hw2', <-hg] at hs2 ⊢;clear hw2' hg HS1 hq1 hg1;have hs3:=(hs2.bp.of dc).bp;have q0:=hs2.cell 0;have q1:=hs2.cell 1;have q2:=(hs2.bp.of dc).cell 1;have q5:=((hs2.bp.of dc).aD (.cells #[.int .i64 k,.slice A2 b.length c2] 140)).cell 1;have HS2:=ah hs3;clear hs2 hs3;go_region_law (refine aQ rfl (.tmp 26) (.tmp 28) 99 rfl 140 i0 _ 2 32 Tryz.underlying99 hi hz0 hz1 hz2 rfl (by decide) (.slice A1 ps.length c1) ps.length (ps.flatMap nN) rfl w0 _ (by exact HS2.o.drew.aD _) (some ⟨w2.heap.size,0,none⟩) 1 1 [.int .i64 k,.slice A2 b.length c2] rfl (aR _ _ _) rfl (by intro u hu;simp at hu;rcases hu with rfl | rfl<;>rfl) (by unfold maxLen;omega) (by omega) ?_;intro A3 c3 w3 hs3;have q3:=hs3.ay.frozen 1;have q4:=hs3.ay.cell 1;have HS3:=ah hs3;clear hs3)
   all_goals
    go_wp2_with fail;have hs4:=HS3.o.ay.set 1 (.slice A3 (ps.length+1) c3);obtain⟨w4,hw4⟩: ∃ w4,w4=w3.setCell ⟨d,1,none⟩ (.slice A3 (ps.length+1) c3):=⟨_,rfl⟩;rw[<-hw4] at hs4 ⊢;clear hw4 HS3 HS2 q0 q1 q2 q3 q4 q5;have q0:=hs4.cell 2;have q1:=hs4.Cd.cell 1;obtain⟨w5,hrun,hs5,_⟩:=hs4.bL.drew.nj (t:= 98) Tryz.underlying3 Tryz.underlying98 k (by have:=HR.o.aG;omega) (.slice A2 b.length c2) (by have:=HN.o;unfold maxLen;omega);have hs6:=(hs5.of BC).right;have q4:=hs6.head.c4;have q3:=hs6.head.c3;have q5:=hs6.head.c5;have f3:=hs6.sV 3;have f4:=hs6.sV 4;have f5:=hs6.sV 5;have HS6:=ah hs6;clear hs4 hs5 hs6;go_region
    clear hrun q0 q1;have hrep: ∀ D':Dk,D'.cells=D.cells->D'.pend=D.pend++[(k,b)]->Ks D' cs (ps++[(k,(A2,c2,b))]):=fun D' e1 e2=>
     ⟨e1.trans HR.o.cells,by rw[e2,HR.o.pend,List.map_append];rfl,HR.o.fitc,fun x hx=>by
      rcases List.mem_append.1 hx with hx | hx
      .exact HR.o.fitp x hx
      .simp at hx;subst hx;refine⟨⟨fun e=>?_,fun e=>?_,HC2.o.1,HC2.o.2⟩,H1.o,by omega⟩
       .exact absurd (HF2.o e) (by intro e';have:=H1.o;rw[e'] at this;simp at this)
       .have:=H1.o;rw[show b=[] from e] at this;simp at this,HR.o.two,HR.o.aG⟩
    have HRep:=ah hrep;have HNm:Hid (nm+1<=(ps++[(k,((A2,c2,b):du))]).length):=by have:=HN.o;unfold Hid;simp;omega
    clear hrep;have hwr:(D.writes:Int)<=1000000000:=by omega
    by_cases ha:D.armed=0
    .have HE:Hid (Sat w0 (af d (D.dC k b)*F) (w5.setCell ⟨d,4,none⟩ (.int .i64 ((D.writes:Int)+1)))):=
      Sat.td (D:=D.dC k b) ((HS6.o.nE (D.writes+1) (by omega)).of (by unfold Dk.dC;rw[ha];rfl)) (HRep.o _ rfl rfl) HNm.o
     rw[ha] at q3;have HA0:=ah ha;clear ha;go_wp2_with fail;go_ret;refine⟨by rw[HP.o,HA0.o];rfl,?_⟩;rw[HP.o];exact HE.o
    .by_cases ha1:D.armed=1
     .have HE:Hid (Sat w0 (af d (D.dC k b)*F) (((w5.setCell ⟨d,4,none⟩ (.int .i64 ((D.writes:Int)+1))).setCell ⟨d,3,none⟩ (.int .i64 0)).setCell ⟨d,5,none⟩ (.bool true))):=
       Sat.td (D:=D.dC k b) ((((HS6.o.nE (D.writes+1) (by omega)).vC 0 (by omega)).IT true).of (by unfold Dk.dC;rw[ha1];rfl)) (HRep.o _ rfl rfl) HNm.o
      rw[ha1] at q3;have HA0:=ah ha1;clear ha ha1;go_wp2_with fail;go_ret;refine⟨by rw[HP.o,HA0.o];rfl,?_⟩;rw[HP.o];exact HE.o
     .have HE:Hid (Sat w0 (af d (D.dC k b)*F) ((w5.setCell ⟨d,4,none⟩ (.int .i64 ((D.writes:Int)+1))).setCell ⟨d,3,none⟩ (.int .i64 ((D.armed:Int) - 1)))):=
       Sat.td (D:=D.dC k b) (((HS6.o.nE (D.writes+1) (by omega)).vC (D.armed - 1) (by omega)).of (by unfold Dk.dC;rw[if_neg ha1])) (HRep.o _ rfl rfl) HNm.o
      have HA0:=ah ha1;have ha2:(0:Int)<D.armed:=by omega
      have ha3:((D.armed:Int) - 1==0)=false:=by rw[beq_eq_false_iff_ne];omega
      have ha4:(D.armed:Int)<=9223372036854775807:=by omega
      clear ha ha1;go_wp2_with fail;go_ret;refine⟨by rw[HP.o,if_neg HA0.o];rfl,?_⟩;rw[HP.o];exact HE.o
  .have HP:Hid (D.write i b=(D,23)):=by unfold Hid Dk.write;rw[if_pos h0,if_neg h1]
   have hne:((b.length:Int) !=512)=true:=by rw[bne_iff_ne];omega
   have H0:=ah h0;clear h0 h1 h hb;go_enter Tryz.func131, Tryz.ntmps131;go_wp2_with fail;refine HA.o.mono ?_;rintro e w' ⟨rfl,rfl⟩;rw[H0.o];go_wp2_with fail;go_ret;refine⟨by rw[HP.o];rfl,?_⟩;rw[HP.o];exact HH.o
 .have HP:Hid (D.write i b=(D,D.ask i)):=by unfold Hid Dk.write;rw[if_neg h0]
  have hne:(D.ask i !=0)=true:=by simpa using h0
  clear h0 h hb;go_enter Tryz.func131, Tryz.ntmps131;go_wp2_with fail;refine HA.o.mono ?_;rintro e w' ⟨rfl,rfl⟩;go_wp2_with fail;go_ret;refine⟨by rw[HP.o];rfl,?_⟩;rw[HP.o];exact HH.o
def Dk.new (n:Nat):Dk:=⟨List.replicate n ([],false),[],0,0,false⟩
def lay (cells:List (List UInt8 × Bool)) (p:Nat × List UInt8):List (List UInt8 × Bool):=cells.set p.1 (p.2,false)
def Dk.flush (D:Dk):Dk × Int:=if D.off then (D,21) else ({ D with cells:=D.pend.foldl lay D.cells,pend:=[] },0)
def uB (cs:List (du × Bool)) (p:Nat × du):List (du × Bool):=cs.set p.1 (p.2,false)
theorem DD (cs:List (du × Bool)) (p:Nat × du):(uB cs p).map (fun x=>(x.1.2.2,x.2))=lay (cs.map fun x=>(x.1.2.2,x.2)) (p.1,p.2.2.2):=by
 unfold uB lay;rw[List.map_set]
theorem Ig (cs:List (du × Bool)): ∀ ps:List (Nat × du),(ps.foldl uB cs).map (fun x=>(x.1.2.2,x.2))=(ps.map fun x=>(x.1,x.2.2.2)).foldl lay (cs.map fun x=>(x.1.2.2,x.2)):=by
 intro ps
 induction ps generalizing cs with
 | nil=>rfl
 | cons p ps ih=>rw[List.foldl_cons,ih,DD];rfl
structure Kw (cs0 cs:List (du × Bool)) (ps:List (Nat × du)):Prop where
 len:cs.length=cs0.length
 fitc: ∀ x ∈ cs,fit x.1/\(x.1.2.2=[]\/x.1.2.2.length=512)
theorem Kw.put {cs0 cs:List (du × Bool)} {ps:List (Nat × du)} (h:Kw cs0 cs ps) {a:Nat} {x:du × Bool} (hx:fit x.1/\(x.1.2.2=[]\/x.1.2.2.length=512)):Kw cs0 (cs.set a x) ps:=
 ⟨by rw[List.length_set];exact h.len,fun y hy=>(List.mem_or_eq_of_mem_set hy).elim (h.fitc y) (fun e=>e ▸ hx)⟩
section
variable {w0 w:World} {F:SP} {d C cc M nm armed writes:Nat} {vp:Value} {cs:List (du × Bool)} {ps:List (Nat × du)} {off:Bool} {D:Dk}
theorem Sat.Ea {rs rs':List du} (h:Sat w0 (cd rs*F) w) (hs: ∀ r ∈ rs',r ∈ rs\/r.2.2=[]):Sat w0 (cd rs'*F) w:=
 h.mono fun q ⟨b,f,k1,k2,k3,k4⟩=>⟨b,f,k1,k2,⟨k3.1,fun r hr hne=>(hs r hr).elim (fun hr=>k3.2 r hr hne) (fun e=>absurd e hne)⟩,k4⟩
theorem Sat.FP (h:Sat w0 (dZ d C cc M nm vp cs ps armed writes off*F) w) (a:Nat) (x:du × Bool) (ha:a<cs.length) (hx:x.1 ∈ ps.map (·.2)\/x.1.2.2=[]):
 Sat w0 (dZ d C cc M nm vp (cs.set a x) ps armed writes off*F) ((w.setCell ⟨C,a*2,none⟩ (Dc x.1)).setCell ⟨C,a*2+1,none⟩ (.bool x.2)):=by
 have h1:=((h.of dc).ay.pC (j:=a*2) (Dc x.1)).pC (j:=a*2+1) (.bool x.2);have e2:=BA (f:=iR) (fun _=>rfl) cs a x _ _ rfl ha;rw[List.setIfInBounds_toArray,List.setIfInBounds_toArray] at e2;have e3:((cs.flatMap iR).set (a*2) (Dc x.1)).set (a*2+1) (.bool x.2)=(cs.set a x).flatMap iR:=by simpa using congrArg Array.toList e2
 rw[e3] at h1;have h2:=h1.fN;have h3:=h2.Ea (rs':=(cs.set a x).map (·.1)++ps.map (·.2)) fun r hr=>by
  rcases List.mem_append.1 hr with hr | hr
  .obtain⟨y,hy,rfl⟩:=List.mem_map.1 hr;rcases List.mem_or_eq_of_mem_set hy with hy | hy
   .exact .inl (List.mem_append_left _ (List.mem_map_of_mem hy))
   .subst hy;exact hx.imp_left (fun hx=>List.mem_append_right _ hx)
  .exact .inl (List.mem_append_right _ hr)
 refine(h3.Lc.ay).of ?_;have e:cs.length=(cs.set a x).length:=(List.length_set ..).symm;rw[e];exact dc.symm
end
theorem sy (d:Nat) (D:Dk) (w0 w:World) (F:SP) (h:Sat w0 (af d D*F) w) (hw2:D.pend.length<=1000000000):
 Calls Tryz.prog 102 #[.pointer (some ⟨d,0,none⟩)] w fun e w'=>e = .returned (.int .i64 D.flush.2)/\Sat w0 (af d D.flush.1*F) w':=by
 have HH:=ah h;by_cases ho:D.off=true
 .have HP:Hid (D.flush=(D,21)):=by unfold Hid Dk.flush;rw[if_pos ho]
  obtain⟨C,cc,M,nm,vp,cs,ps,hr,hn,hs⟩:=h.uh;have hc5:=hs.head.c5;rw[ho] at hc5;clear ho hr hn hs h;go_enter Tryz.func102, Tryz.ntmps102;go_wp2_with fail;go_ret;refine⟨by rw[HP.o];rfl,?_⟩;rw[HP.o];exact HH.o
 .have ho':D.off=false:=by simpa using ho
  have HP:Hid (D.flush=({ D with cells:=D.pend.foldl lay D.cells,pend:=[] },0)):=by unfold Hid Dk.flush;rw[if_neg ho]
  obtain⟨C,cc,M,nm,vp,cs,ps,hr,hn,hs⟩:=h.uh;have hc5:=hs.head.c5;have hc1:=hs.head.c1;rw[ho'] at hc5;have hpl:D.pend.length=ps.length:=by rw[hr.pend];simp
  rw[hpl] at hw2;obtain⟨A1,c1,rfl,hle,hmx⟩:=(hs.of dc).bp.bm;have HS:=ah hs;have HR:=ah hr;have HN:=ah hn;unfold maxLen at hmx;clear ho ho' hr hn hs h hpl;go_enter Tryz.func102, Tryz.ntmps102;go_wp2_with fail;go_loopw [14] (fun i wr=> ∃ k:Nat,k<=ps.length/\i = .int .i64 k/\Hid (Kw cs ((ps.take k).foldl uB cs) ps/\Sat w0 (dZ d C cc M nm (.slice A1 ps.length c1) ((ps.take k).foldl uB cs) ps D.armed D.writes D.off*F) wr)) (fun i _=>ps.length - (intOf i).toNat)
  case atStart=>exact⟨0,by omega,rfl,⟨rfl,HR.o.fitc⟩,HS.o⟩
  case round=>
   obtain⟨k,hk,rfl,HD⟩:=hrel;by_cases hlt:k<ps.length
   .obtain⟨g,rfl,hg⟩:=(HD.o.2.of dc).bp.qu (by omega);have q0:=hg (k*2) (by rw[dv (fun _=>rfl)];omega);have q1:=hg (k*2+1) (by rw[dv (fun _=>rfl)];omega);have e0:(ps.flatMap nN)[k*2]'(by rw[dv (fun _=>rfl)];omega) = .int .i64 ps[k].1:=by
     have:=nY (f:=nN) (fun _=>rfl) ps k 0 hlt (by omega);exact Option.some.inj ((List.getElem?_eq_getElem _).symm.trans this)
    have e1:(ps.flatMap nN)[k*2+1]'(by rw[dv (fun _=>rfl)];omega)=Dc ps[k].2:=by
     have:=nY (f:=nN) (fun _=>rfl) ps k 1 hlt (by omega);exact Option.some.inj ((List.getElem?_eq_getElem _).symm.trans this)
    rw[e0] at q0;rw[e1] at q1;have hfp:=HR.o.fitp ps[k] (List.getElem_mem hlt);have HT:Hid ((ps.take (k+1)).foldl uB cs=uB ((ps.take k).foldl uB cs) ps[k]):=by
     rw[List.take_succ_eq_append_getElem hlt,List.foldl_append];rfl
    have HM:=ah (List.getElem_mem hlt);have hat:ps[k].1<cs.length:=hfp.2.2;have HF:=ah hfp;clear hg e0 e1 hfp;generalize ps[k]=p at*
    obtain⟨a,As,cz,ls⟩:=p;simp only[Dc] at q0 q1 hat;generalize (ps.take k).foldl uB cs=cs1 at*
    have h2:=HD.o.2.ab 140 #[.int .i64 a,.slice As ls.length cz];have hlc:cs1.length=cs.length:=HD.o.1.len;have HLc:=ah hlc;have HS2:=ah h2;clear h2;rw[<-hlc] at hat;clear hlc;go_wp2_with fail;obtain⟨w2,hw2'⟩: ∃ w2,w2=wr.alloc (.cells #[.int .i64 a,.slice As ls.length cz] 140):=⟨_,rfl⟩;obtain⟨b,hb⟩: ∃ b,b=wr.heap.size:=⟨_,rfl⟩;rw[<-hw2', <-hb] at HS2;rw[<-hw2', <-hb];clear hw2' hb q0 q1;have q2:=HS2.o.cell 0;have q3:=HS2.o.cell 1;have q4:=HS2.o.right.head.c0;have q5:=HS2.o.right.rO (a*2);have q6:=HS2.o.right.rO (a*2+1);obtain⟨q7,q8⟩:=HS2.o.right.zN hat;go_region
    go_wp2_with fail;go_roundw
    case rel=>
     refine⟨k+1,by omega,by go_num,?_⟩;rw[HT.o];exact⟨HD.o.1.put ⟨HF.o.1,.inr HF.o.2.1⟩,(HS2.o.right.FP a ((As,cz,ls),false) hat (.inl (List.mem_map_of_mem (f:=Prod.snd) HM.o))).drew⟩
    case measure=>simp[intOf];omega
   .have ht:ps.take k=ps:=List.take_of_length_le (by omega);rw[ht] at HD;clear ht;have HE:Hid (Sat w0 (af d { D with cells:=D.pend.foldl lay D.cells }*F) wr):=by
     refine Sat.td (D:={ D with cells:=D.pend.foldl lay D.cells }) HD.o.2 ⟨?_,HR.o.pend,HD.o.1.fitc,?_,?_,?_⟩ HN.o
     .rw[HR.o.cells,HR.o.pend,Ig]
     .rw[HD.o.1.len];exact HR.o.fitp
     .rw[HD.o.1.len];exact HR.o.two
     .rw[HD.o.1.len];exact HR.o.aG
    go_wp2_with fail;refine(vw d _ w0 wr F HE.o).mono ?_;rintro e w' ⟨rfl,hs⟩;have HG:=ah hs;clear hs;go_wp2_with fail;go_ret;refine⟨by rw[HP.o];rfl,?_⟩;rw[HP.o];exact HG.o
structure Fl where
 num:Nat
 first:Nat
 blocks:Nat
 birth:Nat
 life:Nat
 aa:List (List UInt8)
structure aK where
 slot:Nat
 turn:Nat
 files:List Fl
structure Hd where
 num:Nat
 first:Nat
 blocks:Nat
 birth:Nat
def Fl.hd (f:Fl):Hd:=⟨f.num,f.first,f.blocks,f.birth⟩
def Hd.fl (h:Hd):Fl:=⟨h.num,h.first,h.blocks,h.birth,0,[]⟩
def lM:List UInt8:=[84,68,88,49]
def Ej (h:Hd):List UInt8:=ai h.num 4++(ai h.first 4++(ai h.blocks 4++ai h.birth 8))
def nW (turn:Nat) (hs:List Hd):List UInt8:=lM++(ai turn 8++(ai hs.length 1++(hs.map Ej).flatten))
def xC (l:List UInt8):List UInt8:=l++List.replicate (512 - l.length) 0
def bN (turn:Nat) (hs:List Hd):List UInt8:=xC (nW turn hs)
def qL (r:List UInt8):Hd:=⟨bu (r.take 4),bu ((r.drop 4).take 4),bu ((r.drop 8).take 4),bu ((r.drop 12).take 8)⟩
def eU:Nat->List UInt8->List Hd
 | 0,_=>[]
 | n+1,r=>qL r::eU n (r.drop 20)
def cY (b:List UInt8):Option (Nat × List Hd):=
 if b.take 4=lM/\(b.getD 12 0).toNat<=24 then some (bu ((b.drop 4).take 8),eU (b.getD 12 0).toNat (b.drop 13)) else none
def jZ (n:Nat) (hs:List Hd):Bool:=hs.all fun h=>decide (2<=h.first/\1<=h.blocks/\(h.blocks:Int)<=(n:Int) - h.first)
def FR (s:Option aK) (turn:Nat):Bool:=match s with | none=>true | some x=>decide (x.turn<turn)
def eK (D:Dk) (s:Option aK) (i:Nat):Option aK:=
 if (D.read i).2≠0 then s else
 match cY (D.read i).1 with
 | none=>s
 | some (turn,hs)=>if jZ D.cells.length hs=true/\FR s turn=true then some ⟨i,turn,hs.map Hd.fl⟩ else s
def cC (D:Dk):Option aK × Int:=if D.off then (none,21) else (eK D (eK D none 0) 1,0)
def bB (birth life:Nat) (p:List UInt8):List UInt8:=xC (ai birth 8++(ai life 8++(ai p.length 2++p)))
structure JS where
 over:Bool
 last:Nat
 aG:Nat
 aa:List (List UInt8)
def eW (birth:Nat) (b:List UInt8):Bool:=decide (bu (b.take 8)=birth/\bu ((b.drop 16).take 2)<=480)
def fS (b:List UInt8):Nat:=bu ((b.drop 8).take 8)
def ib (b:List UInt8):List UInt8:=(b.drop 18).take (bu ((b.drop 16).take 2))
def en (birth:Nat) (r:List UInt8 × Int) (s:JS):JS:=
 if r.2≠0 then { s with over:=true } else
 if eW birth r.1=false then { s with over:=true } else
 if s.over=true\/fS r.1<s.last then ⟨true,s.last,max s.aG (fS r.1),s.aa⟩ else
 ⟨false,fS r.1,max s.aG (fS r.1),s.aa++[ib r.1]⟩
def aV (D:Dk) (birth first:Nat):Nat->JS
 | 0=>⟨false,0,0,[]⟩
 | k+1=>en birth (D.read ((first+k:Nat):Int)) (aV D birth first k)
def Fl.load (D:Dk) (f:Fl):Fl:={ f with life:=((aV D f.birth f.first f.blocks).aG+1) % 18446744073709551616,aa:=f.aa++(aV D f.birth f.first f.blocks).aa }
def cJ (D:Dk):Option aK × Int:=
 if (cC D).2=21 then (none,21) else
 match (cC D).1 with
 | none=>(none,30)
 | some s=>(some { s with files:=s.files.map (Fl.load D) },0)
def aK.find (S:aK) (num:Int):Option Fl:=S.files.find? fun f=>((f.num:Nat):Int)==num
def aK.put (S:aK) (fs:List Fl) (D:Dk):aK × Dk × Int:=
 let r:=D.write (((S.slot+1) % 2:Nat):Int) (bN ((S.turn+1) % 18446744073709551616) (fs.map Fl.hd))
 if r.2≠0 then (S,r.1,r.2) else
 let q:=r.1.flush
 if q.2≠0 then (S,q.1,q.2) else (⟨(S.slot+1) % 2,(S.turn+1) % 18446744073709551616,fs⟩,q.1,0)
def fz (D:Dk):Dk × Int:=
 if (cC D).2=21 then (D,21) else (((((cC D).1).getD ⟨0,0,[]⟩).put [] D).2.1,((((cC D).1).getD ⟨0,0,[]⟩).put [] D).2.2)
def aK.append (S:aK) (num:Int) (p:List UInt8) (D:Dk):aK × Dk × Int:=
 match S.find num with
 | none=>(S,D,34)
 | some f=>
  if 480<p.length then (S,D,35) else
  if f.aa.length=f.blocks then (S,D,36) else
  let r:=D.write ((f.first+f.aa.length:Nat):Int) (bB f.birth f.life p)
  if r.2≠0 then (S,r.1,r.2) else ({ S with files:=S.files.map fun g=>if g.num=f.num then { g with aa:=g.aa++[p] } else g },r.1,0)
structure Fi where
 num:Int
 first:Int
 blocks:Int
def aK.dJ (S:aK):List Int->List Int->Bool
 | _,[]=>true
 | ahead,n::l=>(S.find n).isSome && !ahead.contains n && S.dJ (ahead++[n]) l
def aK.eI (S:aK) (drop:List Int):List Int->List Fi->Bool
 | _,[]=>true
 | seen,f::l=>decide (1<=f.num/\f.num<=2147483647/\1<=f.blocks) && !seen.contains f.num && (!(S.find f.num).isSome || drop.contains f.num) && S.eI drop (seen++[f.num]) l
def aK.may (S:aK) (add:List Fi) (drop:List Int):Bool:=S.dJ [] drop && S.eI drop [] add
def aU (n:Nat) (blocks:Int):Nat->List (Nat × Nat)->Nat × Bool
 | first,[]=>(first,decide (blocks<=(n:Int) - first))
 | first,p::l=>if blocks<=(p.1:Int) - first then (first,true) else aU n blocks (p.1+p.2) l
def uw (p:Nat × Nat):List (Nat × Nat)->List (Nat × Nat)
 | []=>[p]
 | q::l=>if p.1<=q.1 then p::q::l else q::uw p l
def di (l:List (Nat × Nat)):List (Nat × Nat):=l.foldr uw []
def xK (f:Fl):List Fl->List Fl
 | []=>[f]
 | g::l=>if f.num<=g.num then f::g::l else g::xK f l
def dV (l:List Fl):List Fl:=l.foldr xK []
def dW (n turn:Nat):List Fi->List (Nat × Nat)->List Fl->Option (List Fl)
 | [],_,fs=>some fs
 | x::l,dp,fs=>
  match aU n x.blocks 2 (di dp) with
  | (_,false)=>none
  | (at_,true)=>dW n turn l (dp++[(at_,x.blocks.toNat)]) (fs++[⟨x.num.toNat,at_,x.blocks.toNat,turn,1,[]⟩])
def aK.dp (S:aK):List (Nat × Nat):=S.files.map fun f=>(f.first,f.blocks)
def aK.switch (S:aK) (add:List Fi) (drop:List Int) (D:Dk):aK × Dk × Int:=
 if S.may add drop=false then (S,D,31) else
 if (24:Int)<(S.files.length:Int)+add.length - drop.length then (S,D,32) else
 match dW D.cells.length ((S.turn+1) % 18446744073709551616) add S.dp (S.files.filter fun f=> !drop.contains (f.num:Int)) with
 | none=>(S,D,33)
 | some fs=>S.put (dV fs) D
def ea (m:Nat):List Value:=List.replicate m (.int .u8 0)
theorem Bl (m:Nat): ∀ u ∈ ea m,u.oneCell'=true:=by
 intro u hu;obtain⟨_,rfl⟩:=List.mem_replicate.1 hu;rfl
theorem mX (m:Nat):Builtin.zeroCells #[.int .u8 0] m=(ea m).toArray:=by
 unfold Builtin.zeroCells ea;apply Array.ext';simp only[Array.toList_map,Array.toList_range];apply List.ext_getElem?;intro j;simp only[List.getElem?_map,List.getElem?_replicate];by_cases hj:j<m
 .rw[List.getElem?_range (by simpa using hj),if_pos hj];have:j % (#[Value.int .u8 0]:Array Value).size=0:=Nat.mod_one j;simp[Nat.mod_one]
 .rw[if_neg hj,List.getElem?_eq_none (by simpa using hj)];rfl
section
variable {P:Program} {w w0:World} {F:SP}
theorem FF (t ti ty e:TypeId) (i:TypeInfo) (ht:P.underlying t=some (.slice e)) (hti:P.underlying ti=some (.int .i64)) (hi:P.info? e=some i) (hz:i.zero=some (.int .u8 0)) (hs:i.size=1) (hb:i.bytes=1)
 (g n cap m:Nat) (xs:List Value) (hS:Sat w0 (Row e 1 (.slice (some ⟨g,0,none⟩) n cap) n xs*F) w) (h0:0<m) (hm:n+m<=1000000000):
 ∃ A' c' w',(Builtin.append_ #[t,ti] ty #[.slice (some ⟨g,0,none⟩) n cap,.int .i64 (m:Int)]).run P w = .ok (.slice A' (n+m) c') w'/\Sat w0 (Row e 1 (.slice A' (n+m) c') (n+m) (xs++ea m)*F) w':=by
 obtain⟨hl,⟨e1,_⟩ | ⟨g',cap',cur,e1,hnc,hcm,hcs,htk,hP⟩⟩:=hS.cu
 .cases e1
 injection e1 with e1 _ e3
 injection e1 with e1
 injection e1 with e1
 subst e1;subst e3;have hg:w.heap[g]?=some (.cells cur e (0,0)):=hP.block;rw[Nat.mul_one] at hl hcs htk;have hw:IntKind.i64.wrap (m:Int)=m:=by rw[IntKind.wrap_i64];omega
 have hneg:¬ (m:Int)<0:=by omega
 have h48:¬ (281474976710656:Int)<(m:Int):=by omega
 have hnl:(ea m).length=m:=List.length_replicate;have hzc:=mX m;by_cases hroom:n+m<=cap
 .have hst:=run_storeCells_at P g n e (ea m) 0 cur w hg (by rw[hnl];omega) (Bl m);simp only[Nat.add_zero] at hst;refine⟨some ⟨g,0,none⟩,cap,w.setRow g (cur.toList.take n++ea m++cur.toList.drop (n+(ea m).length)).toArray,?_,?_⟩
  .have h1:¬ m=0:=by omega
   simp[Builtin.append_,run_underlying ht,run_underlying hti,sizeOf,typeInfo,hi,hs,hb,hroom,Addr.add_lit,hst,asInt,asIntOf,hw,hneg,h48,h1,zeroValue,hz,hzc,Value.cells]
  .have h5:Sat w0 (Pt g e (cur.toList.take n++ea m++cur.toList.drop (n+(ea m).length)).toArray*F) _:=Sat.turn hP (w':=w.setRow g (cur.toList.take n++ea m++cur.toList.drop (n+(ea m).length)).toArray) ⟨rfl,rfl,rfl,by simp,fun k _ hk=>setRow_other w g k _ (fun e=>hk e)⟩ (setRow_heap w g cur _ e _ hg);have h6:=h5.dN (n:=n+m) (cap:=cap) (size:=1) hroom hcm (by simp;omega);refine h6.of ?_;congr 2
   rw[Nat.mul_one,htk];show List.take (n+m) (xs++ea m++_)=_;exact List.take_left' (by rw[List.length_append,hl,hnl])
 .have h1:¬ m=0:=by omega
  have holds: ∀ j u,xs[j]?=some u->w.cell? ((⟨g,0,none⟩:Addr).add j)=some u:=(hS.aO).cells (g:=g) rfl;have hfo:=run_firstCells_some (P:=P) w.drew i.size n ⟨g,0,none⟩ n cap xs (by rw[hl,hs,Nat.mul_one]) (by simpa using holds);have h63':¬ (9223372036854775807:Int)<(n:Int)+(m:Int):=by omega
  have hn48:Builtin.nextslicecap (n+m) cap*i.bytes<=281474976710656:=growslice_fits (by omega) (by rw[hb];omega);have h48':¬ 281474976710656<Builtin.nextslicecap (n+m) cap:=by rw[hb,Nat.mul_one] at hn48;omega
  have hge:=grownCap_ge w (n+m) cap e;have hcm2:grownCap w (n+m) cap e<=maxLen:=grownCap_le_maxLen w (n+m) cap e (by unfold maxLen;omega);refine⟨some ⟨w.heap.size,0,none⟩,grownCap w (n+m) cap e,w.drew.alloc (.cells (xs.toArray++(ea m).toArray++Builtin.zeroCells #[.int .u8 0] (grownCap w (n+m) cap e - (n+m))) e),?_,?_⟩
  .rw[hs] at hfo;simp[Builtin.append_,run_underlying ht,run_underlying hti,sizeOf,typeInfo,hi,hs,hb,hroom,asInt,asIntOf,hw,hneg,h48,h1,zeroValue,hz,hzc,Value.cells,h63',h48',Question.forced,hfo,newRow,grownCap];congr 2
   apply Array.ext';simp[List.append_assoc]
  .have h5:=(hS.right.drew).ab e (xs.toArray++(ea m).toArray++Builtin.zeroCells #[.int .u8 0] (grownCap w (n+m) cap e - (n+m)));have h6:=h5.dN (n:=n+m) (cap:=grownCap w (n+m) cap e) (size:=1) hge hcm2 (by rw[mX];simp[hl,hnl];unfold ea;simp;omega);refine h6.of ?_;congr 2
   rw[Nat.mul_one];simp only[Array.toList_append,List.append_assoc];rw[<-List.append_assoc];exact List.take_left' (by rw[List.length_append,hl,hnl])
theorem nP {ops:Array Oper} {o:Oper} {a:Act} {rest:List Oper} {Q:Exit->Act->World->Prop} (hgd:o.guard=none) (s x:Operand) (t ti e:TypeId) (i:TypeInfo)
 (ho:o.op = .call { callee:= .builtin .append,args:= #[s,x],argTypes:= #[t,ti] }) (ht:P.underlying t=some (.slice e)) (hti:P.underlying ti=some (.int .i64)) (hi:P.info? e=some i) (hz:i.zero=some (.int .u8 0)) (hs:i.size=1) (hb:i.bytes=1)
 (g n cap m:Nat) (xs:List Value) (hev:a.eval s = .slice (some ⟨g,0,none⟩) n cap) (hex:a.eval x = .int .i64 (m:Int)) (w0:World) (F:SP) (hS:Sat w0 (Row e 1 (.slice (some ⟨g,0,none⟩) n cap) n xs*F) w) (h0:0<m) (hm:n+m<=1000000000)
 (h: ∀ A' c' w',Sat w0 (Row e 1 (.slice A' (n+m) c') (n+m) (xs++ea m)*F) w'->wpList P ops Q rest (a.put o.dst (.slice A' (n+m) c')) w'):wpList P ops Q (o::rest) a w:=by
 refine wpList_plain hgd fun K hK=>?_
 obtain⟨A',c',w',hrun,h2⟩:=FF (P:=P) t ti o.type e i ht hti hi hz hs hb g n cap m xs hS h0 hm;unfold Oper.wp execOp;simp only[ho,resolve,invoke,builtin,Sem.run_bind,Sem.run_pure,Result.andThen_ok,List.map_toArray,List.map_cons,List.map_nil,hev,hex,hrun];exact hK _ _ (h _ _ _ h2)
end
def iF:bY->SP
 | []=>bF
 | x::ks=>Row 5 1 (aI x) x.2.2.length (x.2.2.map bv)*iF ks
theorem rB {e:TypeId} {size n:Nat} {v:Value} {xs:List Value} {h:Hp} (hr:Row e size v n xs h) {g:Nat} (hg:v.ownBlock=some g): ∃ o,h g=some (false,o):=by
 rcases hr.2 with ⟨rfl,_⟩ | ⟨g',cap,cur,rfl,_,_,_,_,hp⟩
 .simp[Value.ownBlock] at hg
 .simp[Value.ownBlock] at hg;subst hg;unfold Pt Ow at hp;exact⟨.cells cur e (0,0),by rw[hp];unfold eL;simp⟩
theorem qn: ∀ {ks:bY} {h:Hp},iF ks h-> ∀ x ∈ ks, ∀ g,(aI x).ownBlock=some g-> ∃ o,h g=some (false,o)
 | [],_,_,x,hx,_,_=>by simp at hx
 | y::ks,h,hh,x,hx,g,hg=>by
  obtain⟨a,b,h1,rfl,h3,h4⟩:=hh;rcases List.mem_cons.1 hx with rfl | hx
  .obtain⟨o,ho⟩:=rB h3 hg;exact⟨o,by unfold Hp.un;rw[ho];rfl⟩
  .obtain⟨o,ho⟩:=qn h4 x hx g hg;refine⟨o,?_⟩;unfold Hp.un;rcases h1 g with q | q | ⟨o',q,q'⟩
   .rw[q];exact ho
   .rw[ho] at q;cases q
   .rw[ho] at q';injection q' with q';injection q' with q' _;cases q'
section
variable {w0 w w':World} {F:SP} {ks:bY}
theorem th: ∀ {ks:bY} {F:SP},Sat w0 (iF ks*F) w->ic w0.heap.size w ks
 | [],_,_=>ic.nil _ _
 | x::ks,F,h=>by
  have h1:Sat w0 (Row 5 1 (aI x) x.2.2.length (x.2.2.map bv)*(iF ks*F)) w:=h.of (aB _ _ _);have ih:=th h1.right;refine⟨fun y hy=>?_,List.pairwise_cons.2 ⟨fun y hy g hg hg'=>?_,ih.apart⟩⟩
  .rcases List.mem_cons.1 hy with rfl | hy
   .exact h1.aO
   .exact ih.own y hy
  .obtain⟨c,z,z1,a,f,z2,rfl,z4,b,f',z5,rfl,z6,z7⟩:=h1;obtain⟨o,ho⟩:=rB z4 hg;obtain⟨o',ho'⟩:=qn z6 y hy g hg';have e:(b.un f') g=some (false,o'):=by unfold Hp.un;rw[ho'];rfl
   rcases z2 g with q | q | ⟨o'',q,q'⟩
   .rw[ho] at q;cases q
   .rw[e] at q;cases q
   .rw[ho] at q;injection q with q;injection q with q _;cases q
end
theorem Sat.IS {w0 w w':World} {A F:SP} (h:Sat w0 F w) (k:ao No w w') (a:Hp) (hA:A a) (ha: ∀ i x,a i=some x->w'.heap[i]?=some x.2/\w.heap.size<=i):Sat w0 (A*F) w':=by
 obtain⟨f,h1,hf⟩:=h.hp;have hs:=h.size;refine⟨h.aL.tr k,a.un f,fun i x hx=>?_,a,f,fun i=>?_,rfl,hA,hf⟩
 .unfold Hp.un jn at hx
  cases hq:a i with
  | some y=>
   rw[hq] at hx;injection hx with hx
   subst hx;have h2:=ha i y hq;exact⟨h2.1,fun _=>Nat.le_trans hs h2.2⟩
  | none=>
   rw[hq] at hx;have h2:=h1 i x hx;refine⟨?_,h2.2⟩;rw[k.block i (lt_of_block h2.1) id];exact h2.1
 .cases hq:a i with
  | none=>exact .inl rfl
  | some y=>
   cases hr:f i with
   | none=>exact .inr (.inl rfl)
   | some z=>
    have h2:=lt_of_block (h1 i z hr).1;have h3:=(ha i y hq).2;omega
theorem Ei {w:World} {base e size n:Nat} {v:Value} {xs:List Value} (h:w.ownsRow base e size v n xs): ∃ a:Hp,Row e size v n xs a/\ ∀ i x,a i=some x->w.heap[i]?=some x.2/\base<=i/\v.ownBlock=some i:=by
 obtain⟨hl,⟨rfl,rfl⟩ | ⟨g,cap,cur,rfl,h1,h2,h3,h4,h5,h6⟩⟩:=h
 .exact⟨fun _=>none,⟨hl,.inl ⟨rfl,rfl,rfl⟩⟩,fun i x hx=>by cases hx⟩
 .refine⟨eL g (false,.cells cur e (0,0)),⟨hl,.inr ⟨g,cap,cur,rfl,h3,h4,h5,h6,rfl⟩⟩,fun i x hx=>?_⟩;unfold eL at hx;split at hx
  .rename_i e1;injection hx with hx
   subst hx;subst e1;exact⟨h2,h1,rfl⟩
  .cases hx
theorem AM {w:World} {base:Nat}: ∀ {rs:bY},ic base w rs-> ∃ a:Hp,iF rs a/\ ∀ i x,a i=some x->w.heap[i]?=some x.2/\base<=i/\ ∃ y ∈ rs,(aI y).ownBlock=some i
 | [],_=>⟨fun _=>none,rfl,fun i x hx=>by cases hx⟩
 | y::rs,h=>by
  obtain⟨a,ha,hf⟩:=AM (rs:=rs) ⟨fun x hx=>h.own x (List.mem_cons_of_mem _ hx),(List.pairwise_cons.1 h.apart).2⟩;obtain⟨b,hb,hg⟩:=Ei (h.own y List.mem_cons_self);refine⟨b.un a,⟨b,a,fun i=>?_,rfl,hb,ha⟩,fun i x hx=>?_⟩
  .cases hq:b i with
   | none=>exact .inl rfl
   | some u=>
    cases hr:a i with
    | none=>exact .inr (.inl rfl)
    | some z=>
     obtain⟨_,_,y',hy',e'⟩:=hf i z hr;exact absurd e' ((List.pairwise_cons.1 h.apart).1 y' hy' i (hg i u hq).2.2)
  .unfold Hp.un jn at hx
   cases hq:b i with
   | some u=>
    rw[hq] at hx;injection hx with hx
    subst hx;have h2:=hg i u hq;exact⟨h2.1,h2.2.1,y,List.mem_cons_self,h2.2.2⟩
   | none=>
    rw[hq] at hx;obtain⟨h2,h3,y',hy',e'⟩:=hf i x hx;exact⟨h2,h3,y',List.mem_cons_of_mem _ hy',e'⟩
theorem Sat.Iy {w0 w w':World} {F:SP} {v:Value} {rs:bY} (h:Sat w0 F w) (k:ao No w w') (hv:eT w.heap.size w' v rs):Sat w0 (Row 41 1 v rs.length (rs.map aI)*(iF rs*F)) w':=by
 obtain⟨a,ha,hf⟩:=AM hv.each;obtain⟨b,hb,hg⟩:=Ei hv.row;refine(Sat.IS h k (A:=Row 41 1 v rs.length (rs.map aI)*iF rs) (b.un a) ⟨b,a,fun i=>?_,rfl,hb,ha⟩ fun i x hx=>?_).of (aB _ _ _)
 .cases hq:b i with
  | none=>exact .inl rfl
  | some u=>
   cases hr:a i with
   | none=>exact .inr (.inl rfl)
   | some z=>
    obtain⟨_,_,y',hy',e'⟩:=hf i z hr;exact absurd (hg i u hq).2.2 (fun e2=>FL (hv.each.own y' hy') hv.row (by decide) i e' e2)
 .unfold Hp.un jn at hx
  cases hq:b i with
  | some u=>
   rw[hq] at hx;injection hx with hx
   subst hx;have h2:=hg i u hq;exact⟨h2.1,h2.2.1⟩
  | none=>
   rw[hq] at hx;obtain⟨h2,h3,_⟩:=hf i x hx;exact⟨h2,h3⟩
theorem AR {w0 w:World} {F:SP} {ks:bY} (h:Sat w0 (iF ks*F) w) {x:Option Addr × Nat × List UInt8} (hx:x ∈ ks):Rd w x.1 x.2.2:=(th h).rd hx
section
variable {w0 w:World} {F:SP}
theorem Sat.GI {e:TypeId} {size n c:Nat} {A:Option Addr} {xs:List Value} (h:Sat w0 (Row e size (.slice A n c) n xs*F) w) (m:Nat) (hm:m<=n):Sat w0 (Row e size (.slice A m c) m (xs.take (m*size))*F) w:=by
 obtain⟨hl,⟨e1,e2,h1⟩ | ⟨g,cap,cur,e1,h1,h2,h3,h4,h5⟩⟩:=h.cu
 .injection e1 with e1 _ e3
  subst e1;subst e3;subst e2;obtain rfl:m=0:=by omega
  rw[Nat.zero_mul,List.take_zero];exact h1.aN e size
 .injection e1 with e1 _ e3
  subst e1;subst e3;have h6:=h5.dN (n:=m) (cap:=c) (size:=size) (by omega) h2 h3;rw[<-h4,List.take_take,Nat.min_eq_left (Nat.mul_le_mul_right _ hm)];exact h6
end
end Go.Proofs.YtmbaiglpgaoogaaGreat
