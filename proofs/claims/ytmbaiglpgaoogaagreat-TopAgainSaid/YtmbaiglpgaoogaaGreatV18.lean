/- Joined, as they were built one by one: Ext18 Ext19 Sto1 Ext20 WalApp ExtC WalRead WalLaw SpSwitch. -/
import Derived.Test.YtmbaiglpgaoogaaGreatV04
import Derived.Test.YtmbaiglpgaoogaaGreatV08
import Derived.Test.YtmbaiglpgaoogaaGreatV11
import Derived.Test.YtmbaiglpgaoogaaGreatV17
set_option maxHeartbeats 16000000
namespace Go.Proofs.YtmbaiglpgaoogaaGreat
open Go.RowKit
set_option linter.unusedVariables false
set_option maxRecDepth 100000
structure Cnt (D:Dk) (n:Nat):Prop where
 writes:D.writes<=n
 pend:D.pend.length<=n
section
variable {D E:Dk} {S:Spc} {sf:Nat->Nat} {lim n m i:Nat} {f:Fl} {b:List UInt8}
theorem Cnt.mono (h:Cnt D n) (hm:n<=m):Cnt D m:=⟨Nat.le_trans h.writes hm,Nat.le_trans h.pend hm⟩
theorem Cnt.took (h:Cnt D n):Cnt (D.took i b) (n+1):=⟨Nat.succ_le_succ h.writes,by show (D.pend++[_]).length<=_;rw[List.length_append];exact Nat.succ_le_succ h.pend⟩
theorem Cnt.wr (h:Cnt D n):Cnt (D.wr i b) (n+1):=⟨(h.took (i:=i) (b:=b)).writes,(h.took (i:=i) (b:=b)).pend⟩
theorem Cnt.flush (h:Cnt D n) (ho:D.off=false):Cnt D.flush.1 n:=by rw[flush_on D ho];exact⟨h.writes,Nat.zero_le _⟩
theorem Cnt.crash {keep:List Bool} {torn bytes:Int} (h:Cnt D n):Cnt (D.crash keep torn bytes) n:=⟨h.writes,Nat.zero_le _⟩
theorem flush_armed (ho:D.off=false):D.flush.1.armed=D.armed:=by rw[flush_on D ho]
theorem wr_armed:(D.wr i b).armed=D.armed - 1:=rfl
theorem took_off (h:D.armed=1):(D.took i b).off=true:=by unfold Dk.took;rw[h];rfl
inductive AppR (S:Spc) (D:Dk) (sf:Nat->Nat) (lim:Nat) (n:Int) (p:List UInt8) (r:Spc × Dk × Int):Prop where
 | none (h:S.find n=none) (e:r=(S,D,34))
 | long (f:Fl) (h:S.find n=some f) (h2:480<p.length) (e:r=(S,D,35))
 | full (f:Fl) (h:S.find n=some f) (h2:p.length<=480) (h3:f.frames.length=f.blocks) (e:r=(S,D,36))
 | off (f:Fl) (h:S.find n=some f) (h2:p.length<=480) (h3:f.frames.length<f.blocks) (ha:D.armed=1) (e:r=(S,D.took (f.first+f.frames.length) (frameB f.birth f.life p),21))
 | ok (f:Fl) (h:S.find n=some f) (h2:p.length<=480) (h3:f.frames.length<f.blocks) (ha:D.armed≠1) (e:r=(S.grow f.num p,D.wr (f.first+f.frames.length) (frameB f.birth f.life p),0)) (g:Good r.2.1 r.1 sf lim)
theorem append_cases (hg:Good D S sf lim) (n:Int) (p:List UInt8):AppR S D sf lim n p (S.append n p D):=by
 cases hf:S.find n with
 | none=>exact .none hf (by unfold Spc.append;rw[hf])
 | some f=>
  obtain⟨hm,hn⟩:=find_mem hf;obtain⟨a1,a2,a3,a4,a5,a6⟩:=hg.fils.ok.each f hm;obtain⟨k1,k2,k3,k4,k5⟩:=hg.file hm;by_cases h1:480<p.length
  .exact .long f hf h1 (by unfold Spc.append;rw[hf];simp only;rw[if_pos h1])
  .by_cases h2:f.frames.length=f.blocks
   .exact .full f hf (by omega) h2 (by unfold Spc.append;rw[hf];simp only;rw[if_neg h1,if_pos h2])
   .have hi:f.first+f.frames.length<D.cells.length:=by omega
    have hw:=write_took D (f.first+f.frames.length) (frameB f.birth f.life p) hg.fils.off hi (frame_len (by omega));have e1:S.append n p D=if (if D.armed=1 then (21:Int) else 0)≠0 then (S,D.took (f.first+f.frames.length) (frameB f.birth f.life p),if D.armed=1 then (21:Int) else 0) else (S.grow f.num p,D.took (f.first+f.frames.length) (frameB f.birth f.life p),0):=by
     unfold Spc.append;rw[hf];simp only;rw[if_neg h1,if_neg h2,hw];rfl
    by_cases ha:D.armed=1
    .exact .off f hf (by omega) (by omega) ha (by rw[e1,if_pos ha,if_pos (by simp)])
    .have e2:S.append n p D=(S.grow f.num p,D.wr (f.first+f.frames.length) (frameB f.birth f.life p),0):=by
      rw[e1,if_neg ha,if_neg (by simp)];have:D.took (f.first+f.frames.length) (frameB f.birth f.life p)=D.wr (f.first+f.frames.length) (frameB f.birth f.life p):=by
       unfold Dk.wr Dk.took;simp only[if_neg ha,hg.fils.off]
      rw[this]
     refine .ok f hf (by omega) (by omega) ha e2 ?_;rw[e2];exact good_append hg hm (by omega) (by omega)
inductive SwR (S:Spc) (D:Dk) (sf:Nat->Nat) (lim:Nat) (add:List Fi) (drop:List Int) (r:Spc × Dk × Int):Prop where
 | no (h:S.may add drop=false) (e:r=(S,D,31))
 | many (h:S.may add drop=true) (h2:(24:Int)<(S.files.length:Int)+add.length - drop.length) (e:r=(S,D,32))
 | full (h:S.may add drop=true) (h2:(S.files.length:Int)+add.length - drop.length<=24) (h3:addX D.cells.length (S.turn+1) add S.lie (S.files.filter fun f=> !drop.contains (f.num:Int))=none) (e:r=(S,D,33))
 | off (fs:List Fl) (h:S.may add drop=true) (h2:(S.files.length:Int)+add.length - drop.length<=24) (h3:addX D.cells.length (S.turn+1) add S.lie (S.files.filter fun f=> !drop.contains (f.num:Int))=some fs) (ha:D.armed=1)
  (hn:Next D S sf (sortN fs) (fun num=>if (num:Int) ∈ add.map (·.num) then 0 else sf num)) (e:r=(S,D.took (1 - S.slot) (sealB (S.turn+1) ((sortN fs).map Fl.hd)),21))
 | ok (fs:List Fl) (h:S.may add drop=true) (h2:(S.files.length:Int)+add.length - drop.length<=24) (h3:addX D.cells.length (S.turn+1) add S.lie (S.files.filter fun f=> !drop.contains (f.num:Int))=some fs) (ha:D.armed≠1)
  (hn:Next D S sf (sortN fs) (fun num=>if (num:Int) ∈ add.map (·.num) then 0 else sf num)) (e:r=(⟨1 - S.slot,S.turn+1,sortN fs⟩,(D.wr (1 - S.slot) (sealB (S.turn+1) ((sortN fs).map Fl.hd))).flush.1,0)) (g:Good r.2.1 r.1 (lenAt (sortN fs)) (lim+1))
theorem switch_cases (hg:Good D S sf lim) (hlim:lim+1<=1000000000) (add:List Fi) (drop:List Int):SwR S D sf lim add drop (S.switch add drop D):=by
 have hcap:=hg.fils.cap;have ht:(S.turn+1) % 18446744073709551616=S.turn+1:=Nat.mod_eq_of_lt (by omega)
 cases hm:S.may add drop with
 | false=>exact .no hm (sw_no add drop hm)
 | true=>
  by_cases h2:(24:Int)<(S.files.length:Int)+add.length - drop.length
  .exact .many hm h2 (sw_many add drop hm h2)
  .cases h3:addX D.cells.length (S.turn+1) add S.lie (S.files.filter fun f=> !drop.contains (f.num:Int)) with
   | none=>exact .full hm (by omega) h3 (sw_full add drop hm h2 (by rw[ht];exact h3))
   | some fs=>
    have hn:=next_of hg hm (by omega) h3;have hs:=sw_put add drop hm h2 (fs:=fs) (D:=D) (by rw[ht];exact h3);obtain⟨p1,p2⟩:=put_eq hg hn.ok.count;by_cases ha:D.armed=1
    .exact .off fs hm (by omega) h3 ha hn (by rw[hs,p1 ha])
    .refine .ok fs hm (by omega) h3 ha hn (by rw[hs,p2 ha]) ?_;rw[hs,p2 ha];exact good_put hg hn hlim
theorem may_new {i:Nat} {r:List UInt8 × Int} (h:May (Dk.new n) i r):r=(List.replicate 512 0,0):=by
 rcases h with ⟨x,h1,h2⟩ | ⟨b,h1,_⟩
 .have h3:=List.mem_of_getElem? h1;have h4:x=([],false):=List.eq_of_mem_replicate h3;subst h4;rw[h2];rfl
 .cases h1
theorem new_read {i:Nat} (h:i<n):(Dk.new n).read (i:Int)=(List.replicate 512 0,0):=may_new (may_read (Dk.new n) i rfl (by unfold Dk.new;simpa using h))
theorem unseal_zero:unsealB (List.replicate 512 0)=none:=by
 unfold unsealB;rw[if_neg];rintro ⟨h,_⟩;have:(List.replicate 512 (0:UInt8)).take 4=[0,0,0,0]:=by rw[List.take_replicate];rfl
 rw[this] at h;exact absurd h (by decide)
theorem readX_new (h:2<=n):readX (Dk.new n)=(none,0):=by
 have hb: ∀ i,i<2->bestH (Dk.new n) none i=none:=fun i hi=>by
  unfold bestH;rw[new_read (show i<n by omega)];simp only[ne_eq,not_true_eq_false,if_false,unseal_zero]
 unfold readX;rw[if_neg (by simp[Dk.new]),show bestH (Dk.new n) none 0=none from hb 0 (by omega),show bestH (Dk.new n) none 1=none from hb 1 (by omega)]
def seal1:List UInt8:=sealB 1 []
theorem seal1_len:seal1.length=512:=sealB_len (by simp)
def beginD (n:Nat):Dk:=((Dk.new n).wr 1 seal1).flush.1
theorem formatX_new (h:2<=n):formatX (Dk.new n)=(beginD n,0):=by
 unfold formatX;rw[readX_new h,if_neg (by simp)];have hw:=write_took (Dk.new n) 1 seal1 rfl (by unfold Dk.new;simp;omega) seal1_len;have e1:(Dk.new n).took 1 seal1=(Dk.new n).wr 1 seal1:=rfl;rw[if_neg (by simp[Dk.new]),e1] at hw;have h1:(Spc.put ⟨0,0,[]⟩ [] (Dk.new n))=(⟨1,1,[]⟩,beginD n,0):=by
  obtain⟨_,_,c3⟩:=put_cases ⟨0,0,[]⟩ (Dk.new n) [] ((Dk.new n).wr 1 seal1,0) (beginD n,0) (by show _=(Dk.new n).write ((1:Nat):Int) seal1;rw[hw]) (by show _=((Dk.new n).wr 1 seal1).flush;unfold beginD;rw[flush_on _ rfl]);exact c3 rfl rfl
 show ((Spc.put ⟨0,0,[]⟩ [] (Dk.new n)).2.1,(Spc.put ⟨0,0,[]⟩ [] (Dk.new n)).2.2)=_;rw[h1]
theorem begin_good (h:2<=n) (hn:n<=65536):Good (beginD n) ⟨1,1,[]⟩ (fun _=>0) 1:=by
 have hwf0:WfD (Dk.new n):=⟨fun x hx=>by cases hx⟩;have hl0:(Dk.new n).cells.length=n:=by unfold Dk.new;simp
 have hwf:WfD ((Dk.new n).wr 1 seal1):=wr_wf hwf0 (by rw[hl0];omega) seal1_len;have hc:=came_flush hwf rfl;have hl:(beginD n).cells.length=n:=hc.len.trans hl0;have hmay: ∀ i r,i<n->May (beginD n) i r->r=(if i=1 then (seal1,0) else (List.replicate 512 0,0)):=fun i r hi hr=>by
  rw[hc.one i r (by show i<((Dk.new n).wr 1 seal1).cells.length;rw[wr_len,hl0];exact hi) hr,flush_read _ hwf rfl i (by rw[wr_len,hl0];exact hi),wr_read rfl (by rw[hl0];exact hi)];by_cases e:i=1
  .rw[if_pos e,if_pos e]
  .rw[if_neg e,if_neg e];exact new_read hi
 refine⟨⟨hc.off,hc.wf,by rw[hl];exact h,by rw[hl];exact hn,⟨by simp,List.Pairwise.nil,List.Pairwise.nil,by simp⟩,⟨Nat.le_refl _,by omega⟩,by simp,fun i hi hin r hr e=>?_⟩,⟨by show 1<2;omega,fun r hr=>?_,fun r hr e t g hu=>?_⟩⟩
 .rw[hmay i r (by rw[hl] at hin;exact hin) hr,if_neg (by omega)];have:(List.replicate 512 (0:UInt8)).take 8=List.replicate 8 0:=by rw[List.take_replicate];rfl
  show getN ((List.replicate 512 (0:UInt8)).take 8)<=1;rw[this];decide
 .rw[hmay 1 r (by omega) hr,if_pos rfl];rfl
 .rw[hmay 0 r (by omega) hr,if_neg (by omega)] at hu;rw[unseal_zero] at hu
  cases hu
theorem begin_cnt:Cnt (beginD n) 1:=Cnt.flush (Cnt.wr (n:=0) ⟨Nat.le_refl _,Nat.le_refl _⟩) rfl
theorem begin_armed:(beginD n).armed=0:=by unfold beginD;rw[flush_armed rfl];rfl
theorem begin_len:(beginD n).cells.length=n:=by unfold beginD;rw[flush_on _ rfl];show (List.foldl lay _ _).length=_;rw[lay_len];unfold Dk.wr Dk.took Dk.new;simp
end
section
variable {D E:Dk} {S:Spc} {sf:Nat->Nat} {lim n m i:Nat} {f:Fl} {b:List UInt8}
theorem app_ok (hg:Good D S sf lim) {n:Int} {p:List UInt8} (ha:D.armed≠1) (hf:S.find n=some f) (hp:p.length<=480) (hl:f.frames.length<f.blocks):
  ∃ D',S.append n p D=(S.grow f.num p,D',0)/\Good D' (S.grow f.num p) sf lim/\(∀ n,Cnt D n->Cnt D' (n+1))/\D'.cells.length=D.cells.length/\D'.armed=D.armed - 1:=by
 have h:=append_cases hg n p
 cases h with
 | none h1 e=>rw[hf] at h1;cases h1
 | long f' h1 h2 e=>omega
 | full f' h1 h2 h3 e=>rw[hf] at h1;injection h1 with h1;subst h1;omega
 | off f' h1 h2 h3 h4 e=>exact absurd h4 ha
 | ok f' h1 h2 h3 h4 e g=>
  rw[hf] at h1;injection h1 with h1
  subst h1;rw[e] at g;exact⟨_,e,g,fun n hn=>hn.wr,rfl,rfl⟩
end
def imgN (n:Nat):Nat:=((n*512 - 262144) / 8+100) / 480+2
def logN (n:Nat):Nat:=(n - 2 - 2*imgN n) / 2
theorem img_le {n:Nat} (h:n<=65536):2<=imgN n/\imgN n<=8672/\imgN n*7<=n+21:=by unfold imgN;omega
theorem sizes_fit {n:Nat} (h:64<=n):2+2*imgN n+2*logN n<=n/\1<=logN n:=by unfold logN imgN;omega
theorem sizes_any (n:Nat) (hn:64<=n/\n<=65536) (w:World):Calls Tryz.prog 93 #[.int .i64 (n:Int)] w fun e w'=>e = .returned (.tuple #[.int .i64 (imgN n:Nat),.int .i64 (logN n:Nat)])/\w=w':=by
 obtain⟨h1,h2⟩:=hn;have HI:Hid (∃ a:Nat,imgN n=a / 480+2/\a=(n*512 - 262144) / 8+100):=⟨_,rfl,rfl⟩;by_cases hb:262144<=n*512
 .have hq:((n:Int)*512 - 262144).tdiv 8=(((n*512 - 262144) / 8:Nat):Int):=by
   rw[Int.tdiv_eq_ediv_of_nonneg (by omega)];omega
  have hq2:(0:Int)<=(((n*512 - 262144) / 8:Nat):Int):=by omega
  obtain⟨m,hm⟩: ∃ m,m=(n*512 - 262144) / 8:=⟨_,rfl⟩;have hmb:m<=4200000:=by omega
  rw[<-hm] at hq hq2;have hi:((m:Int)+100).tdiv 480=(((m+100) / 480:Nat):Int):=by rw[Int.tdiv_eq_ediv_of_nonneg (by omega)];omega
  have hI:imgN n=(m+100) / 480+2:=by unfold imgN;rw[hm]
  obtain⟨q,hq3⟩: ∃ q,q=(m+100) / 480:=⟨_,rfl⟩;rw[<-hq3] at hi hI;have hqb:q<=9000/\2*q+6<=n:=by omega
  have hl:((n:Int) - 2 - 2*((q:Int)+2)).tdiv 2=(logN n:Nat):=by
   rw[Int.tdiv_eq_ediv_of_nonneg (by omega)];unfold logN;rw[hI];omega
  have HIi:=ah hI;have HL:=ah hl;have hlb:logN n<=65536:=by unfold logN;omega
  have hmx:¬ (m:Int)<0:=by omega
  obtain⟨hqb1,hqb2⟩:=hqb;clear hm hq3 hI HI;go_enter Tryz.func93, Tryz.ntmps93;go_wp2_with fail
  all_goals
   go_ret2;refine⟨?_,rfl⟩;rw[HIi.o,show (((q+2:Nat)):Int)=(q:Int)+2 by omega];rfl
 .obtain⟨z,hz⟩: ∃ z,((n:Int)*512 - 262144).tdiv 8=z:=⟨_,rfl⟩;have hz0:z<0/\ -1000000<=z:=by
   have h3:((n:Int)*512 - 262144) = -((262144 - n*512:Nat):Int):=by omega
   rw[h3,Int.neg_tdiv,Int.tdiv_eq_ediv_of_nonneg (by omega)] at hz;omega
  obtain⟨hz1,hz2⟩:=hz0;have hI:imgN n=2:=by unfold imgN;omega
  have hl:((n:Int) - 2 - 4).tdiv 2=(logN n:Nat):=by
   rw[Int.tdiv_eq_ediv_of_nonneg (by omega)];unfold logN;rw[hI];omega
  have hi:((100:Int)).tdiv 480=0:=by decide
  have hmz:max z 0=0:=by omega
  have hlb:logN n<=65536:=by unfold logN;omega
  have HIi:=ah hI;clear hI HI;go_enter Tryz.func93, Tryz.ntmps93;go_wp2_with fail
  all_goals
   go_ret2;refine⟨?_,rfl⟩;rw[HIi.o];rfl
section
variable {w0 w:World} {F:SP} {d:Nat} {D:Dk}
theorem files_st (n lg:Nat) (hn:64<=n/\n<=65536) (hD:D.cells.length=n) (hl:1<=lg/\lg<=2000000000) (h:Sat w0 (Disk d D*F) w):
  Calls Tryz.prog 54 #[.pointer (some ⟨d,0,none⟩),.int .i64 (lg:Int)] w fun e w'=> ∃ g,e = .returned (.slice (some ⟨g,0,none⟩) 2 2)/\Sat w0 (Pt g 128 #[.int .i64 ((lg:Int) - 1),.int .i64 0,.int .i64 (imgN n:Nat),.int .i64 (lg:Int),.int .i64 0,.int .i64 (logN n:Nat)]*(Disk d D*F)) w':=by
 have HB:Hid (Calls Tryz.prog 51 #[.pointer (some ⟨d,0,none⟩)] w fun e w'=>e = .returned (.int .i64 (n:Int))/\w=w'):=by
  have h9:=blocks_any d D w0 w F h;rw[hD] at h9;exact h9
 have HS:=ah (fun W=>sizes_any n hn W);have HA:=ah (h.allocPt 128 #[.int .i64 ((lg:Int) - 1),.int .i64 0,.int .i64 (imgN n:Nat),.int .i64 (lg:Int),.int .i64 0,.int .i64 (logN n:Nat)]);obtain⟨h1,h2⟩:=hl;clear h hn hD;go_enter Tryz.func54, Tryz.ntmps54;go_wp2_with (first
  | (go_at_call 51;(with_reducible refine HB.o.mono ?_);rintro e wx ⟨rfl,rfl⟩)
  | (go_at_call 93;(with_reducible refine(HS.o _).mono ?_);rintro e wx ⟨rfl,rfl⟩))
 go_ret;exact⟨_,rfl,HA.o⟩
theorem height_any (s:Int) (hs:0<=s/\s<=1000000000) (w:World):Calls Tryz.prog 63 #[.int .i64 s] w fun e w'=>(∃ h:Int,e = .returned (.int .i64 h)/\ -9223372036854775808<=h/\h<=9223372036854775807)/\w=w':=by
 obtain⟨n,rfl⟩: ∃ n:Nat,s=n:=⟨s.toNat,by omega⟩;have hn:n<=1000000000:=by omega
 clear hs;go_enter Tryz.func63, Tryz.ntmps63;go_wp2_with fail;go_loopw [0,3] (fun sv hv wr=> ∃ (m h:Nat),sv = .int .i64 (m:Int)/\hv = .int .i64 (h:Int)/\h+m<=n+1/\w=wr) (fun sv _ _=>(intOf sv).toNat)
 case atStart=>exact⟨n,1,rfl,rfl,by omega,rfl⟩
 case round=>
  obtain⟨m,h,rfl,rfl,hm,rfl⟩:=hrel;have hb:h<=1000000001:=by omega
  have ha:=and1 (m:Int);by_cases h1:(m:Int) % 2=1
  .have hb1:((m:Int) % 2==1)=true:=by rw[h1];rfl
   have hm1:1<=m:=by omega
   clear h1;go_wp2_with fail;go_roundw
   .exact⟨m / 2,h+1,by go_num,by go_num,by omega,trivial⟩
   .simp[intOf];omega
  .have hb1:((m:Int) % 2==1)=false:=by simpa using h1
   clear h1;go_wp2_with fail;go_ret;exact⟨⟨h,rfl,by omega,by omega⟩,rfl⟩
end
section
variable {w0 w:World} {F:SP} {s d n m:Nat} {D D':Dk} {S S':Spc} {sf:Nat->Nat} {lim:Nat} {f:Fl} {r:Int} {p:List UInt8}
theorem ap_at (n0:Int) (A:Option Addr) (c k:Nat) (hg:Good D S sf lim) (hc:Cnt D n) (hn:n<=999999999) (ha:D.armed<=9223372036854775807) (h:Sat w0 (SpaceP s d S*(Disk d D*F)) w) (hp: ∀ W,Sat w0 F W->Rd W A p) (hk:p.length=k) (hr:S.append n0 p D=(S',D',r)):
  Calls Tryz.prog 120 #[.pointer (some ⟨s,0,none⟩),.int .i64 n0,.slice A k c] w fun e w'=>e = .returned (.int .i64 r)/\Sat w0 (SpaceP s d S'*(Disk d D'*F)) w':=by
 subst hk;have h2:=append_sp n0 A c p hg h hp (by have:=hc.writes;omega) (by have:=hc.pend;omega) ha;rw[hr] at h2;exact h2
end
def Spc.appsL (n:Int):List (List UInt8)->Spc->Dk->Spc × Dk × Int
 | [],S,D=>(S,D,0)
 | p::ps,S,D=>if (S.append n p D).2.2=0 then Spc.appsL n ps (S.append n p D).1 (S.append n p D).2.1 else S.append n p D
def Spc.wapp (S:Spc) (n:Int) (b:List UInt8) (D:Dk):Spc × Dk × Int:=
 match S.find n with
 | none=>(S,D,34)
 | some f=>if 262144<b.length then (S,D,40) else if (f.blocks:Int) - f.frames.length<needN b.length then (S,D,41) else Spc.appsL n (split b) S D
theorem appsL_cons (n:Int) (p:List UInt8) (ps:List (List UInt8)) (S:Spc) (D:Dk):Spc.appsL n (p::ps) S D=if (S.append n p D).2.2=0 then Spc.appsL n ps (S.append n p D).1 (S.append n p D).2.1 else S.append n p D:=rfl
theorem split_len (b:List UInt8):(split b).length=needN b.length:=by unfold split;simp
theorem split_each {b p:List UInt8} (h:p ∈ split b):p.length<=480:=by
 unfold split at h;obtain⟨i,_,rfl⟩:=List.mem_map.1 h;unfold frame;rw[List.length_cons,piece_len];omega
theorem need_nat (k:Nat) (w:World) (h:k<=9223372036854775807):Calls Tryz.prog 116 #[.int .i64 (k:Int)] w fun e w'=>e = .returned (.int .i64 (needN k:Int))/\w=w':=by
 have:=need_any (k:Int) w (by omega);have e:needI (k:Int)=(needN k:Int):=by rw[needI,if_pos (by omega),Int.toNat_natCast]
 rwa [e] at this
theorem txt_at {rs:Rows_} {ps:List (List UInt8)} (h:txt rs=ps) (i:Nat) (hi:i<rs.length):ps.drop i=rs[i].2.2::ps.drop (i+1):=by
 subst h;rw[List.drop_eq_getElem_cons (by unfold txt;simpa using hi)];congr 1
 unfold txt;simp
theorem RdV.sl_get {w:World} {A:Option Addr} {rs:Rows_} (h:RdV w A (rs.map slOf)) {k:Nat} (hk:k<rs.length): ∃ b o,A=some ⟨b,o,none⟩/\w.cell? ⟨b,o+k,none⟩=some (slOf rs[k]):=by
 obtain⟨b,o,e,hc⟩:=h (by intro e;have:=congrArg List.length e;simp at this;rw[this] at hk;simp at hk);refine⟨b,o,e,?_⟩;have:=hc k (by simpa using hk);rw[this];simp
theorem Sat.drop3 {w0 w:World} {A B C F:SP} (h:Sat w0 (A*(B*(C*F))) w):Sat w0 (A*(B*F)) w:=(h.up3.right)
section
variable {w0 w:World} {F:SP} {s d n m:Nat} {D D':Dk} {S S':Spc} {sf:Nat->Nat} {lim:Nat} {f:Fl} {p:List UInt8}
theorem app_next (hg:Good D S sf lim) (n:Int) (p:List UInt8) (hc:Cnt D m) (ha:D.armed<=9223372036854775807) (h0:(S.append n p D).2.2=0):
  Good (S.append n p D).2.1 (S.append n p D).1 sf lim/\Cnt (S.append n p D).2.1 (m+1)/\(S.append n p D).2.1.armed<=9223372036854775807:=by
 have h:=append_cases hg n p
 cases h with
 | none h1 e=>rw[e] at h0;simp at h0
 | long f' h1 h2 e=>rw[e] at h0;simp at h0
 | full f' h1 h2 h3 e=>rw[e] at h0;simp at h0
 | off f' h1 h2 h3 h4 e=>rw[e] at h0;simp at h0
 | ok f' h1 h2 h3 h4 e g=>
  obtain⟨D',e',g',c',_,a'⟩:=app_ok hg h4 h1 h2 h3;rw[e'];exact⟨g',c' _ hc,by rw[a'];omega⟩
end
section
variable {w0 w:World} {F:SP} {s d n m:Nat} {D:Dk} {S:Spc} {sf:Nat->Nat} {lim:Nat} {b:List UInt8}
theorem wapp_sp (n:Int) (A:Option Addr) (c:Nat) (hg:Good D S sf lim) (hc:Cnt D m) (hm:m<=999999000) (ha:D.armed<=9223372036854775807) (h:Sat w0 (SpaceP s d S*(Disk d D*F)) w) (hp: ∀ W,Sat w0 F W->Rd W A b) (hbc:b.length<=c) (hcm:c<=9223372036854775807):
  Calls Tryz.prog 72 #[.pointer (some ⟨s,0,none⟩),.int .i64 n,.slice A b.length c] w fun e w'=>e = .returned (.int .i64 (S.wapp n b D).2.2)/\Sat w0 (SpaceP s d (S.wapp n b D).1*(Disk d (S.wapp n b D).2.1*F)) w':=by
 have HS:=ah h;have hbl:b.length<=9223372036854775807:=by omega
 obtain⟨L,hL⟩: ∃ L,L=b.length:=⟨_,rfl⟩
 cases hf:S.find n with
 | none=>
  have e1:S.wapp n b D=(S,D,34):=by unfold Spc.wapp;rw[hf]
  rw[e1];have HR:=ah (room_sp_no (n:=n) hg h hf);clear hg h e1 hL;go_enter Tryz.func72, Tryz.ntmps72;go_wp2_with (go_at_call 118;(with_reducible refine HR.o.mono ?_);rintro e w1 ⟨rfl,rfl⟩);go_ret;exact⟨rfl,HS.o⟩
 | some f=>
  have HR:=ah (room_sp (n:=n) hg h hf);by_cases h1:262144<b.length
  .have e1:S.wapp n b D=(S,D,40):=by unfold Spc.wapp;rw[hf];simp only;rw[if_pos h1]
   rw[e1];rw[<-hL] at*
   have h1':(262144:Int)<L:=by omega
   clear hg h e1 hL;go_enter Tryz.func72, Tryz.ntmps72;go_wp2_with (go_at_call 118;(with_reducible refine HR.o.mono ?_);rintro e w1 ⟨rfl,hs⟩;have HS1:=ah hs;clear hs);go_ret;exact⟨rfl,HS1.o⟩
  .have HN:=fun W=>need_nat b.length W hbl
   by_cases h2:(f.blocks:Int) - f.frames.length<needN b.length
   .have e1:S.wapp n b D=(S,D,41):=by unfold Spc.wapp;rw[hf];simp only;rw[if_neg h1,if_pos h2]
    rw[e1];generalize needN b.length=k at*
    generalize (f.blocks:Int) - f.frames.length=r at*
    rw[<-hL] at*
    have h1':¬ (262144:Int)<L:=by omega
    have HN:=ah HN;clear hg h e1 hL;go_enter Tryz.func72, Tryz.ntmps72;go_wp2_with (first
     | (go_at_call 118;(with_reducible refine HR.o.mono ?_);rintro e w1 ⟨rfl,hs⟩;have HS1:=ah hs;clear hs)
     | (go_at_call 116;(with_reducible refine(HN.o _).mono ?_);rintro e wx ⟨rfl,rfl⟩))
    go_ret;exact⟨rfl,HS1.o⟩
   .have e1:S.wapp n b D=Spc.appsL n (split b) S D:=by unfold Spc.wapp;rw[hf];simp only;rw[if_neg h1,if_neg h2]
    rw[e1];have HSp:Hid (∀ W,Sat w0 F W->Calls Tryz.prog 119 #[.slice A b.length c] W (Splitd b W)):=fun W hW=>split_any A c b W (hp W hW) hbc hcm (by omega)
    have hN548:=needN_le b.length;have HLn:=ah (split_len b);have HEach:Hid (∀ p ∈ split b,p.length<=480):=fun p hp=>split_each hp
    unfold Splitd at HSp;generalize hsp:split b=ps at*
    generalize needN b.length=k at*
    generalize hr0:(f.blocks:Int) - f.frames.length=r at*
    rw[<-hL] at*
    have h1':¬ (262144:Int)<L:=by omega
    have HN:=ah HN;have HG:=ah hg;have HC:=ah hc;have HA:=ah ha;have h2':¬ (r:Int)<k:=h2;clear hg h e1 hL hsp hr0 hc ha h1 h2 hf hbl hbc hcm hp;go_enter Tryz.func72, Tryz.ntmps72;go_upto_region 8 with (first
     | (go_at_call 118;(with_reducible refine HR.o.mono ?_);rintro e w1 ⟨rfl,hs⟩;have HS1:=ah hs;clear hs)
     | (go_at_call 116;(with_reducible refine(HN.o _).mono ?_);rintro e wx ⟨rfl,rfl⟩))
    have HSpl:=ah (HSp.o _ HS1.o.right.right);go_upto_region 9 with (go_at_call 119;(with_reducible refine HSpl.o.mono ?_);rintro e w2 ⟨v,rs,rfl,ht,ho,hk⟩;have HS2:=ah (HS1.o.gotLL hk ho);have HT:=ah ht;clear ht ho hk;obtain⟨A2,c2,rfl,_⟩:=HS2.o.row_sl)
    have HLr:Hid (rs.length=k):=by unfold Hid;rw[<-HLn.o, <-HT.o];unfold txt;simp
    have HXk:=ah (txt_at HT.o);obtain⟨N,hN⟩: ∃ N,N=rs.length:=⟨_,rfl⟩;have HNr:Hid (N=rs.length/\N=ps.length):=⟨hN,by rw[hN,HLr.o,HLn.o]⟩;have hNk:N<=548:=by rw[hN,HLr.o];exact hN548
    rw[<-hN] at HS2 ⊢;clear hN HN HR HSp HSpl HS1 HS hN548;go_loopw [35] (fun iv wr=> ∃ (i:Nat) (S':Spc) (D':Dk),i<=N/\iv = .int .i64 (i:Int)/\Hid (Good D' S' sf lim/\Cnt D' (m+i)/\D'.armed<=9223372036854775807/\Spc.appsL n ps S D=Spc.appsL n (ps.drop i) S' D'/\Sat w0 (SpaceP s d S'*(Disk d D'*(Row 41 1 (.slice A2 N c2) N (rs.map slOf)*(OwnR rs*F)))) wr)) (fun iv _=>N - (intOf iv).toNat)
    case atStart=>exact⟨0,S,D,by omega,rfl,HG.o,HC.o,HA.o,rfl,HS2.o.of (by ac_rfl)⟩
    case round=>
     obtain⟨i,S',D',hi,rfl,HD⟩:=hrel;by_cases hlt:i<N
     .have hk2:(i:Int)<N:=by omega
      have hkm:i+1<=N:=hlt;have hir:i<rs.length:=by rw[<-HNr.o.1];exact hlt
      obtain⟨b5,o5,rfl,q0⟩:=HD.o.2.2.2.2.up3.row_rdvX.sl_get hir;have hpe:(ps.drop i)=rs[i].2.2::ps.drop (i+1):=HXk.o i hir;have hpl:rs[i].2.2.length<=480:=HEach.o _ (List.mem_of_mem_drop (i:=i) (by rw[hpe];exact List.mem_cons_self));have hrd: ∀ W,Sat w0 (Row 41 1 (.slice (some ⟨b5,o5,none⟩) N c2) N (rs.map slOf)*(OwnR rs*F)) W->Rd W rs[i].1 rs[i].2.2:=fun W hW=>OwnR_rd hW.right (List.getElem_mem hir)
      obtain⟨A3,c3,p,hx⟩: ∃ A3 c3 p,rs[i]=(A3,c3,p):=⟨_,_,_,rfl⟩;rw[hx] at q0 hpe hpl hrd;dsimp only at hpe hpl hrd;unfold slOf at q0;dsimp only at q0;obtain⟨S2,D2,r2,he⟩: ∃ S2 D2 r2,S'.append n p D'=(S2,D2,r2):=⟨_,_,_,rfl⟩;have hAp:=ap_at n A3 c3 p.length HD.o.1 HD.o.2.1 (by omega) HD.o.2.2.1 HD.o.2.2.2.2 hrd rfl he;have hst:Spc.appsL n ps S D=if r2=0 then Spc.appsL n (ps.drop (i+1)) S2 D2 else (S2,D2,r2):=by
       rw[HD.o.2.2.2.1,hpe,appsL_cons,he]
      have hnx:=fun h0=>app_next HD.o.1 n p HD.o.2.1 HD.o.2.2.1 (by rw[he];exact h0)
      rw[he] at hnx;have HAp:=ah hAp;have HSt:=ah hst;have HNx:=ah hnx;clear hAp hst hnx hpe hrd hx he;generalize p.length=pl at*
      by_cases hr2:r2=0
      .subst hr2;have HN0:=ah (HNx.o rfl);have HS0:Hid (Spc.appsL n ps S D=Spc.appsL n (ps.drop (i+1)) S2 D2):=by unfold Hid;rw[HSt.o,if_pos rfl]
       clear HNx HSt;go_wp2_with (go_at_call 120;(with_reducible refine HAp.o.mono ?_);rintro e w4 ⟨rfl,hs⟩;have HS4:=ah hs;clear hs);go_roundw
       .exact⟨i+1,S2,D2,hkm,by push_cast;rfl,HN0.o.1,HN0.o.2.1,HN0.o.2.2,HS0.o,HS4.o⟩
       .simp[intOf];omega
      .have hr3:(r2 !=0)=true:=by rw[bne_iff_ne];exact hr2
       have HE:Hid (Spc.appsL n ps S D=(S2,D2,r2)):=by unfold Hid;rw[HSt.o,if_neg hr2]
       go_wp2_with (go_at_call 120;(with_reducible refine HAp.o.mono ?_);rintro e w4 ⟨rfl,hs⟩;have HS4:=ah hs;clear hs);go_ret;rw[HE.o];exact⟨rfl,HS4.o.drop3.drop3⟩
     .have hk2:¬ (i:Int)<N:=by omega
      have HE:Hid (Spc.appsL n ps S D=(S',D',0)):=by
       unfold Hid;rw[HD.o.2.2.2.1,List.drop_of_length_le (by have:=HNr.o.2;omega)];rfl
      go_wp2_with fail;go_ret;rw[HE.o];exact⟨rfl,HD.o.2.2.2.2.drop3.drop3⟩
end
section
variable {w0 w:World} {F:SP} {s d slot turn:Nat} {v:Value} {ps:List (Nat × Fl)} {D:Dk}
theorem frames_yesC (n:Int) (h:Sat w0 (SpaceC s d slot turn v ps*F) w) (hl:ps.length<=1000000) {i:Nat} (hi:i<ps.length) (he:idxN ps n=i) (hf:ps[i].2.frames.length<=65536) (hsm: ∀ p ∈ ps[i].2.frames,p.length<=480):
  Calls Tryz.prog 59 #[.pointer (some ⟨s,0,none⟩),.int .i64 n] w fun e w'=> ∃ u ts,e = .returned (.tuple #[u,.int .i64 0])/\txt ts=ps[i].2.frames/\(∀ x ∈ ts,x.2.2.length<=x.2.1/\x.2.1<=maxLen)/\Sat w0 (Row 41 1 u ts.length (ts.map slOf)*(RoL ts*(SpaceC s d slot turn v ps*F))) w':=by
 obtain⟨i0,hi0',hz0',hz1',hz2'⟩:=info_parts rowsT;have hi0:=ah hi0';have hz0:=ah hz0';have hz1:=ah hz1';have hz2:=ah hz2';have HF:=find_any n h hl;rw[he,List.getElem?_eq_getElem hi] at HF;have HF:=ah HF;obtain⟨v5,ks,hks,hfl⟩:=(h.of (space_at hi)).fl;obtain⟨A,c,rfl,hu1,hu2⟩:=hfl.up2.row_sl;have g5:w.cell? ⟨ps[i].1,5,none⟩=some (.slice A ks.length c):=hfl.cell 5;have HS:=ah hfl;have hkl:ks.length=ps[i].2.frames.length:=by rw[<-hks,txt,List.length_map]
 have HKs:=ah hks;have HSm:Hid (∀ k ∈ ks,k.2.2.length<=480):=fun k hk=>hsm k.2.2 (by rw[<-hks];exact List.mem_map_of_mem hk)
 have hk16:ks.length<=65536:=by omega
 clear h hks he hkl hf hsm hi0' hz0' hz1' hz2' hfl;obtain⟨G,hG⟩: ∃ G,G=Pt s 153 #[ptrV d,.int .i64 (slot:Int),.int .u64 (turn:Int),v]*(Row 155 1 v ps.length (ps.map fun x=>ptrV x.1)*(FlsP (ps.eraseIdx i)*F)):=⟨_,rfl⟩;rw[<-hG] at HS;have HG:=ah hG;clear hG;go_enter Tryz.func59, Tryz.ntmps59;go_wp2_with (go_at_call 103;(with_reducible refine HF.o.mono ?_);rintro x wx ⟨rfl,rfl⟩;unfold ptrO ptrV;dsimp only);go_loopw [7,9,20] (fun ov _ iv wr=> ∃ (k:Nat) (C:Option Addr) (cc:Nat) (ts:Rows_),k<=ks.length/\ov = .slice C k cc/\iv = .int .i64 (k:Int)/\Hid ((∀ x ∈ ts,x.2.2.length<=x.2.1/\x.2.1<=maxLen)/\ts.length=k/\txt ts=txt (ks.take k)/\Sat w0 (Row 41 1 (.slice C k cc) k (ts.map slOf)*(RoL ts*(Pt ps[i].1 163 (flC ps[i].2 (.slice A ks.length c))*(Row 41 1 (.slice A ks.length c) ks.length (ks.map slOf)*(RoL ks*G))))) wr)) (fun _ _ iv _=>ks.length - (intOf iv).toNat)
 case atStart=>exact⟨0,none,0,[],by omega,rfl,rfl,by simp,rfl,rfl,(HS.o.rolNil [] (by simp)).row_nil _ 1⟩
 case round=>
  obtain⟨k,C,cc,ts,hk,rfl,rfl,HD⟩:=hrel;by_cases hlt:k<ks.length
  .have hrd:RdL wr A ks:=⟨RdV.of_own HD.o.2.2.2.up4.row_own,fun x hx=>HD.o.2.2.2.up5.rol hx⟩;obtain⟨⟨b,o,rfl,hc⟩,hx⟩:=hrd.get hlt;have hk2:(k:Int)<ks.length:=by omega
   have hxl:=HSm.o ks[k] (List.getElem_mem hlt);have HT:Hid (txt (ks.take (k+1))=txt (ks.take k)++[ks[k].2.2]):=by
    unfold Hid txt;rw[List.take_succ_eq_append_getElem hlt,List.map_append];rfl
   have HCl:=ah (clone_any ks[k].1 ks[k].2.1 ks[k].2.2 wr hx (by omega));clear hx hrd;generalize ks[k]=x at*
   go_wp2_with (first
    | (go_at_call 104;(with_reducible refine HCl.o.mono ?_);rintro e w2 ⟨v2,rfl,h2,_,k2⟩;have hs:=HD.o.2.2.2.gotRow k2 h2;obtain⟨A2,c2,hv2,hcp⟩:=hs.row_sl;subst hv2;have HCp:=ah hcp;clear hcp;have HS2:=ah (hs.row_rol (l:=x.2.2));clear hs h2 k2)
    | (at_builtin;refine wpList_appS rfl (.tmp 24) (.tmp 27) 87 rfl 41 i0 _ 1 24 Tryz.underlying87 hi0.o hz0.o hz1.o hz2.o rfl (by decide) (.slice C k cc) k (ts.map slOf) rfl w0 _ (by exact(HS2.o.alloc' _).up2) (some ⟨w2.heap.size,0,none⟩) 1 1 [slOf (A2,c2,x.2.2)] rfl (lit_rdv _ _ _) rfl (slOf_oneX _) (by unfold maxLen;omega) (by omega) ?_;intro A3 c3 w3 hs3;have HS3:=ah hs3;clear hs3))
   go_roundw
   .refine⟨k+1,A3,c3,ts++[(A2,c2,x.2.2)],by omega,rfl,by push_cast;rfl,?_,?_,?_,?_⟩
    .intro y hy;rcases List.mem_append.1 hy with h9 | h9
     .exact HD.o.1 y h9
     .rw[List.mem_singleton.1 h9];exact HCp.o
    .rw[List.length_append,HD.o.2.1];rfl
    .rw[HT.o, <-HD.o.2.2.1,txt,List.map_append];rfl
    .rw[List.map_append];exact HS3.o.of (by rw[<-rol_app,List.map_singleton];ac_rfl)
   .simp[intOf];omega
  .obtain rfl:k=ks.length:=by omega
   have hk2:¬ ((ks.length:Nat):Int)<ks.length:=by omega
   go_wp2_with fail;go_ret2;refine⟨_,rfl,ts,?_,(fun a b c hm=>HD.o.1 _ hm),?_⟩
   .rw[HD.o.2.2.1,List.take_length];exact HKs.o
   .rw[HD.o.2.1];have h9:=Sat.flI HKs.o (HD.o.2.2.2.of (show _=Pt ps[i].1 163 (flC ps[i].2 (.slice A ks.length c))*(Row 41 1 (.slice A ks.length c) ks.length (ks.map slOf)*(RoL ks*(Row 41 1 (.slice C ks.length cc) ks.length (ts.map slOf)*(RoL ts*G)))) by ac_rfl));refine h9.of ?_;rw[HG.o,space_at hi]
    ac_rfl
end
section
variable {w0 w:World} {F:SP} {s d:Nat} {D:Dk} {v:Value} {ps:List (Nat × Fl)} {S:Spc} {sf:Nat->Nat} {lim:Nat} {f:Fl}
theorem frames_spC {n:Int} (hg:Good D S sf lim) (h:Sat w0 (SpaceP s d S*(Disk d D*F)) w) (hf:S.find n=some f):
  Calls Tryz.prog 59 #[.pointer (some ⟨s,0,none⟩),.int .i64 n] w fun e w'=> ∃ u ts,e = .returned (.tuple #[u,.int .i64 0])/\txt ts=f.frames/\(∀ x ∈ ts,x.2.2.length<=x.2.1/\x.2.1<=maxLen)/\Sat w0 (Row 41 1 u ts.length (ts.map slOf)*(RoL ts*(SpaceP s d S*(Disk d D*F)))) w':=by
 obtain⟨v,ps,hps,hs⟩:=h.space;obtain⟨i,hi,he,rfl⟩:=at_find hps hf;obtain⟨k1,k2,k3,k4,k5⟩:=hg.file (find_mem hf).1;refine(frames_yesC n hs (by have:=few hps hg;omega) hi he (by omega) k3).mono ?_;rintro e w' ⟨u,ts,h1,h2,hcp,h3⟩;refine⟨u,ts,h1,h2,hcp,?_⟩;have h4:=Sat.spaceI hps (h3.of (show _=SpaceC s d S.slot S.turn v ps*(Row 41 1 u ts.length (ts.map slOf)*(RoL ts*(Disk d D*F))) by ac_rfl));exact h4.of (by ac_rfl)
end
theorem flat_few: ∀ {l:List (List UInt8)},(∀ p ∈ l,p.length<=480)->l.flatten.length<=l.length*480
 | [],_=>by simp
 | p::l,h=>by
  have h1:=h p List.mem_cons_self;have h2:=flat_few (l:=l) fun q hq=>h q (List.mem_cons_of_mem _ hq)
  rw[List.flatten_cons,List.length_append,List.length_cons];omega
section
variable {w0 w:World} {F:SP} {s d n m:Nat} {D:Dk} {S:Spc} {sf:Nat->Nat} {lim:Nat} {f:Fl}
theorem read_sp {n:Int} (hg:Good D S sf lim) (h:Sat w0 (SpaceP s d S*(Disk d D*F)) w) (hf:S.find n=some f):
  Calls Tryz.prog 64 #[.pointer (some ⟨s,0,none⟩),.int .i64 n] w fun e w'=> ∃ u rs,e = .returned (.tuple #[u,.int .i64 0])/\txt rs=whole f.frames/\Sat w0 (Row 41 1 u rs.length (rs.map slOf)*(OwnR rs*(SpaceP s d S*(Disk d D*F)))) w':=by
 have HF:=ah (frames_spC (n:=n) hg h hf);obtain⟨k1,k2,k3,k4,k5⟩:=hg.file (find_mem hf).1;have hfl:=flat_few k3;have HW:Hid (∀ (A:Option Addr) (c:Nat) (ts:Rows_) W,txt ts=f.frames->(∀ x ∈ ts,x.2.2.length<=x.2.1/\x.2.1<=maxLen)->RdL W A ts->Calls Tryz.prog 111 #[.slice A ts.length c] W (fun e w'=> ∃ v rs,e = .returned v/\txt rs=whole f.frames/\OwnLL W.heap.size w' v rs/\Chg No W w')):=fun A c ts W ht hcp hr=>by
  have hl:ts.length=f.frames.length:=by rw[<-ht];unfold txt;simp
  have h9:=whole_any A c ts W hr hcp (by rw[ht];omega) (by omega);rw[ht] at h9;exact h9
 clear hg h hf k1 k2 k3 k4 k5 hfl;go_enter Tryz.func64, Tryz.ntmps64;go_wp2_with (first
  | (go_at_call 59;(with_reducible refine HF.o.mono ?_);rintro e w1 ⟨u,ts,rfl,ht,hcp,hs⟩;obtain⟨A,c,rfl,_⟩:=hs.row_sl;have HS1:=ah hs;have HWc:=ah (HW.o A c ts w1 ht hcp ⟨hs.row_rdvX,fun x hx=>hs.up2.rol hx⟩);clear hs ht hcp)
  | (go_at_call 111;(with_reducible refine HWc.o.mono ?_);rintro e w2 ⟨v,rs,rfl,ht,ho,hk⟩;have HS2:=ah (HS1.o.gotLL hk ho);have HT:=ah ht;clear ht ho hk))
 go_ret2;exact⟨_,rs,rfl,HT.o,HS2.o.up3.right.up3.right⟩
end
def Spc.growL (S:Spc) (k:Nat) (ps:List (List UInt8)):Spc:={ S with files:=S.files.map fun g=>if g.num=k then { g with frames:=g.frames++ps } else g }
theorem growL_nil (S:Spc) (k:Nat):S.growL k []=S:=by
 unfold Spc.growL;have h:(fun g:Fl=>if g.num=k then { g with frames:=g.frames++[] } else g)=id:=by
  funext g
  split
  .rw[List.append_nil];rfl
  .rfl
 rw[h,List.map_id]
theorem growL_grow (S:Spc) (k:Nat) (p:List UInt8) (ps:List (List UInt8)):(S.grow k p).growL k ps=S.growL k (p::ps):=by
 unfold Spc.growL Spc.grow;simp only[List.map_map];congr 1
 apply List.map_congr_left;intro g _;simp only[Function.comp];by_cases h:g.num=k
 .simp[h]
 .simp[h]
section
variable {D D':Dk} {S S':Spc} {sf:Nat->Nat} {lim m k:Nat} {f:Fl} {p:List UInt8} {ps:List (List UInt8)}
theorem find_growL (n:Int):(S.growL k ps).find n=(S.find n).map fun g=>if g.num=k then { g with frames:=g.frames++ps } else g:=by
 unfold Spc.growL Spc.find;simp only;rw[List.find?_map];congr 2
 funext g
 simp only[Function.comp];split<;>rfl
theorem grow_is (S:Spc) (k:Nat) (p:List UInt8):S.grow k p=S.growL k [p]:=rfl
theorem apps_yes {n:Int}: ∀ (ps:List (List UInt8)) {S:Spc} {D:Dk} {f:Fl},Good D S sf lim->S.find n=some f->(∀ p ∈ ps,p.length<=480)->f.frames.length+ps.length<=f.blocks->(D.armed=0\/ps.length<D.armed)->
  ∃ D',Spc.appsL n ps S D=(S.growL f.num ps,D',0)/\Good D' (S.growL f.num ps) sf lim/\(∀ m,Cnt D m->Cnt D' (m+ps.length))/\D'.cells.length=D.cells.length/\D'.armed=D.armed - ps.length
 | [],S,D,f,hg,hf,hp,hl,ha=>⟨D,by rw[growL_nil];rfl,by rw[growL_nil];exact hg,fun m h=>h,rfl,rfl⟩
 | p::ps,S,D,f,hg,hf,hp,hl,ha=>by
  rw[List.length_cons] at hl ha;obtain⟨D1,e1,g1,c1,l1,a1⟩:=app_ok hg (n:=n) (p:=p) (by omega) hf (hp p List.mem_cons_self) (by omega);have h2:(S.grow f.num p).find n=some { f with frames:=f.frames++[p] }:=by
   rw[grow_is,find_growL,hf];simp
  obtain⟨D2,e2,g2,c2,l2,a2⟩:=apps_yes ps g1 h2 (fun q hq=>hp q (List.mem_cons_of_mem _ hq)) (by simp only[List.length_append,List.length_singleton];omega) (by omega);simp only at e2 g2;rw[growL_grow] at e2 g2;refine⟨D2,?_,g2,fun m h=>?_,l2.trans l1,by rw[a2,a1,List.length_cons];omega⟩
  .rw[appsL_cons,e1];exact(if_pos rfl).trans e2
  .have:=c2 _ (c1 m h);rw[List.length_cons];exact this.mono (by omega)
theorem wapp_no {n:Int} {b:List UInt8} (hf:S.find n=some f) (hb:b.length<=262144) (hl:f.blocks<f.frames.length+needN b.length):S.wapp n b D=(S,D,41):=by
 unfold Spc.wapp;rw[hf];simp only;rw[if_neg (by omega),if_pos (by omega)]
end
section
variable {D:Dk} {sf:Nat->Nat} {lim:Nat}
theorem good_lim {S:Spc} {m:Nat} (hg:Good D S sf lim) (h:lim<=m) (hm:m<=1000000000):Good D S sf m:=
 ⟨⟨hg.fils.off,hg.fils.wf,hg.fils.two,hg.fils.most,hg.fils.ok,⟨Nat.le_trans hg.fils.cap.1 h,hm⟩,fun f hf=>⟨Nat.le_trans (hg.fils.each f hf).1 h,(hg.fils.each f hf).2⟩,hg.fils.births⟩,hg.heads⟩
end
end Go.Proofs.YtmbaiglpgaoogaaGreat
