import Derived.Test.YtoejfkeofbdalaaGreatDoorM34
import Derived.Test.YtoejfkeofbdalaaGreatDoorM35
set_option linter.all false
set_option maxRecDepth 100000
set_option maxHeartbeats 8000000
namespace Go.Proofs.YtoejfkeofbdalaaGreatDoor
open Go.RowKit Go.Shelf
theorem zsj(w:World):(sizeOf 56).run Tryz.prog w=.ok 5 w:=Q2
theorem zsR:Tryz.prog.elem 29=56:=Q2
theorem zrU:Tryz.prog.underlying 29=some (.slice (Tryz.prog.elem 29)):=Q2
theorem zyk(g o n a l h:Nat)(b:l<=h)(c:h<=a)(d:l<a)(W:World) :
 (Instr.slice 29 (Qs g o n a) (some (Qi (l:Int))) (some (Qi (h:Int))) none).run Tryz.prog W=.ok (Qs g (o+l*5) (h-l) (a-l)) W:=by
 have e:sliced (some ⟨g,o,none⟩) l h a 5=Qs g (o+l*5) (h-l) (a-l):=by
  unfold sliced;rw[if_neg Q0,Iz,RQ]
 rw[<-e,run_slice_lh W _ _ _ _ zrU _ _ _ _ Q0 Q0 Q0,zsR,zsj]
 rfl
structure BF where
 st:Nat
 off:Nat
 n:Nat
 blk:Nat
 last:Nat
 got:List UInt8
 text:List UInt8
def DD:BF:=⟨0,0,0,0,0,[],[]⟩
def DH(r:BF):List Value:=[Qi (r.st:Nat),Qi (r.off:Nat),Qi (r.n:Nat),Qi (r.blk:Nat),Qi (r.last:Nat),.string ⟨r.got.toArray⟩,.string ⟨r.text.toArray⟩]
def L6(r:BF):Value:=.agg #[Qi (r.st:Nat),Qi (r.off:Nat),Qi (r.n:Nat),Qi (r.blk:Nat),Qi (r.last:Nat),.string ⟨r.got.toArray⟩,.string ⟨r.text.toArray⟩]
structure BA(ps:List Ai)(r:BF):Prop where
 st1:1<=r.st
 st3:r.st<=3
 off:r.off<(Bi ps).length
 n1:1<=r.n
 n2:r.n<=1000000
 first:∃f,Jz ps r.off f/\f<=r.blk
 bl:r.blk<=r.last
 last:Jz ps (r.off+min r.n ((Bi ps).length-r.off)-1) r.last
 got:r.got=Lc (Bi ps) r.off r.n (BZ ps r.blk)
 text:r.st≠3->r.text=[]
 text3:r.st=3->∀p,ps[r.blk]?=some p->r.text=p.t
def Ph(a:List Ai)(r:BF):Prop:=r=DD\/BA a r
theorem zuF(w:World)(a:List UInt8)(g:Value)(R c:Nat)(f h:Value)(b:Nat) :
 Qk 216 #[Fl a g R c f h b,L6 DD] w λe j=>e=.returned (.bool true)/\Qb w j:=by
 unfold Fl L6 DD;obtain⟨s,d⟩:=Qe (Value.string ⟨a.toArray⟩);rw[d];have i:=Aa (Ay (Ay (Ag w.heap.size w) (.cells #[s,g,Qi (R:Nat),Qi (c:Nat),f,h,Qi (b:Nat)] 39)) (.cells #[Qi ((0:Nat):Int),Qi ((0:Nat):Int),Qi ((0:Nat):Int),Qi ((0:Nat):Int),Qi ((0:Nat):Int),.string ⟨([]:List UInt8).toArray⟩,.string ⟨([]:List UInt8).toArray⟩] 185));clear d
 go_enter Tryz.func216,Tryz.ntmps216
 go_wp2_with fail
 go_ret
 exact⟨rfl,i.out⟩
theorem zvl(w:World)(a:List UInt8)(iv:Value)(R c:Nat)(hv rv:Value)(dc:Nat)(ps:List Ai)(hi:Au w iv ps)(hI:Bz ps)(r:BF)(hr:BA ps r) :
 Qk 216 #[Fl a iv R c hv rv dc,L6 r] w λe w'=>e=.returned (.bool true)/\Qb w w':=by
 obtain⟨h1,h3,hoff,hn1,hn2,⟨f,hf,hfb⟩,hbl,hlast,hgot,htext,htext3⟩:=hr;obtain⟨st,off,n,blk,last,got,text⟩:=r
 dsimp only at*
 have hTl:=hI.len;have hNl:=hI.few;have hbp:blk<ps.length:=by have:=hlast.1;omega
 obtain⟨pb,hpb⟩:∃pb,ps[blk]?=some pb:=⟨_,Az hbp⟩;have hbl2:BZ ps blk<=(Bi ps).length:=OV ps blk;have hgl:got.length=min (off+n) (BZ ps blk)-off:=by rw[hgot];exact ZR _ _ _ _ hbl2
 have htl:text.length=if st=3 then pb.t.length else 0:=by
  split
  ·rw[htext3 Q3 pb hpb]
  ·rw[htext Q3];rfl
 unfold Fl L6
 dsimp only
 obtain⟨s,hs⟩:=Qe (Value.string ⟨a.toArray⟩);rw[hs];obtain⟨N,hN⟩:=Qe ps.length;obtain⟨q,cc,rfl⟩:=hi.shape;rw[hN] at hi hNl hbp |-;obtain⟨lb,hlb⟩:=Qe w.heap.size;have hal:=Ay (Ay (Ag w.heap.size w) (.cells #[s,.slice q N cc,Qi (R:Nat),Qi (c:Nat),hv,rv,Qi (dc:Nat)] 39)) (.cells #[Qi (st:Nat),Qi (off:Nat),Qi (n:Nat),Qi (blk:Nat),Qi (last:Nat),.string ⟨got.toArray⟩,.string ⟨text.toArray⟩] 185);have HD:=Aa (Bb (.cells #[Qi (st:Nat),Qi (off:Nat),Qi (n:Nat),Qi (blk:Nat),Qi (last:Nat),.string ⟨got.toArray⟩,.string ⟨text.toArray⟩] 185) (Am w (.cells #[s,.slice q N cc,Qi (R:Nat),Qi (c:Nat),hv,rv,Qi (dc:Nat)] 39) lb hlb.symm));have HR:=Aa (Am (w.alloc (.cells #[s,.slice q N cc,Qi (R:Nat),Qi (c:Nat),hv,rv,Qi (dc:Nat)] 39)) (.cells #[Qi (st:Nat),Qi (off:Nat),Qi (n:Nat),Qi (blk:Nat),Qi (last:Nat),.string ⟨got.toArray⟩,.string ⟨text.toArray⟩] 185) (lb+1) (by simp[hlb]))
 have HV:=Aa (Au.up hi hal);have HB0:=Aa hal
 have CC:Hid (∀W,Au W (.slice q N cc) ps->Qk 109 #[.slice q N cc,Qi (off:Nat),Qi (n:Nat)] W λe w'=>e=.returned (.tuple #[Qi f,Qi last])/\Qb W w'):=λW h=>(Zz W _ ps h hI off n hn1 hn2 hoff).mono (by
  rintro e w' ⟨f2,l2,rfl,ha,hb,hB⟩;obtain rfl:=ha.uniq hf;obtain rfl:=hb.uniq hlast;exact⟨rfl,hB⟩)
 have CW:Hid (∀W:World,Qk 107 #[Qi (off:Nat),Qi (n:Nat)] W λe w'=>e=.returned (.bool true)/\Qb W w'):=λW=>znx W off n Q0 Q0
 have hoN:off<=1000000:=Q0
 have hl0:=hlast.1;rw[hN] at hl0;have HF:=Aa hf.2.1;have HP:=Aa hpb;have HI:=Aa hI;have HNe:=Aa hN;have HGL:=Aa hgl;have HTL:=Aa htl;have HOB:=Aa hbl2;have b1:decide ((st:Int)<0)=false:=AV Q0
 have b2:decide ((3:Int)<(st:Int))=false:=AV Q0
 have b3:((st:Int)==0)=false:=Ez.2 Q0
 have b4:decide ((f:Int)<0)=false:=AV Q0
 have b5:decide ((blk:Int)<(f:Int))=false:=AV Q0
 have b6:decide (blk<f)=false:=AV Q0
 have b7:decide ((last:Int)<(blk:Int))=false:=AV Q0
 have b8:decide (last<blk)=false:=AV Q0
 have b9:((last:Int) !=(last:Int))=false:=by simp
 clear hi hs hal hf hgot htext htext3 hlast hoff hpb hI hN hgl htl hbl2
 go_enter Tryz.func216,Tryz.ntmps216
 go_upto_region 1 with(fail)
 generalize(w.alloc _).alloc _=W at*
 have d1:=AA HD.out;have r0:=A8 HR.out;have r1:=AA HR.out;have r2:=Bk HR.out
 go_wp2_with fail
 refine(CC.out W HV.out).mono ?_;rintro e W2 ⟨rfl,hB⟩;clear d1 r0 r1 r2;have HD2:=Aa (Al hB HD.out);have HR2:=Aa (Al hB HR.out);have HV2:=Aa (Au.up HV.out hB);have HB2:=Aa (A9 hB HB0.out);clear hB HD HR HV HB0 CC;have r1:=AA HR2.out;have r2:=Bk HR2.out
 go_wp2_with fail
 refine(CW.out W2).mono ?_;rintro e W3 ⟨rfl,hB⟩;clear r1 r2;have HD3:=Aa (Al hB HD2.out);have HR3:=Aa (Al hB HR2.out);have HV3:=Aa (Au.up HV2.out hB);have HB3:=Aa (A9 hB HB2.out);clear hB HD2 HR2 HV2 HB2 CW;obtain⟨g,o,pf,rfl,hg,-⟩:=NB HV3.out HNe.out f Q0
 obtain⟨_,_,hcap,hcN,-⟩:=Rd.isSlice HV3.out;injection hcap with x1 x2 x3
 subst x1 x3;rw[HNe.out] at hcN;have hcut:=zyk g o N cc f blk hfb Q0 Q0
 have d1:=AA HD3.out;have r3:=CY HR3.out;have r4:=De HR3.out;obtain⟨M,hM⟩:=Qe (blk-f);rw[hM] at hcut;obtain⟨o2,ho2⟩:=Qe (o+f*5);rw[ho2] at hcut;have HO2:=Aa ho2;have HM:=Aa hM;have hble:blk<=cc:=Q0
 have hne:cc≠f:=Q0
 have hne2:(cc ==f)=false:=Ez.2 hne;have hne3:(cc-f ==0)=false:=Ez.2 Q0
 have hne4:cc-f≠0:=Q0
 clear hM ho2 hcN x2;have hb0:=Ag W3.heap.size W3;have HB4:=Aa hb0;clear hb0
 go_wp2_with fail
 go_loopw [72,7] (λkv gv wr=>∃k m:Nat,k<=M/\kv=Qi k/\gv=Qi m/\m<=1000000/\Hid (m=min (off+n) (BZ ps (f+k))-off)/\Hid (Qb W3 wr)) (λkv _ _=>M+1-(intOf kv).toNat)
 case atStart=>exact⟨0,0,Q0,rfl,rfl,Q0,by have:=HF.out;show 0=min (off+n) (BZ ps (f+0))-off;simp only[Ic];omega,HB4⟩
 case round =>
  obtain⟨k,m,hk,rfl,rfl,hm,HMM,HB⟩:=hrel;clear d1 r3 r4 HB4;have HD5:=Aa (Al HB.out HD3.out);have HR5:=Aa (Al HB.out HR3.out);have HV5:=Aa (Au.up HV3.out HB.out)
  by_cases hlt:k<M
  ·have hlt2:f+k<N:=by have:=HM.out;omega
   obtain⟨g',o',p,hq,-,hp,c0,c1,c2,c3,c4⟩:=NB HV5.out HNe.out (f+k) hlt2;injection hq with hq
   injection hq with hq1 hq2
   subst hq1 hq2;obtain⟨p1,p2,p3,p4,p5,p6,p7⟩:=HI.out.part (f+k) p hp;have hco:o+(f+k)*5=o2+k*5:=by have:=HO2.out;omega
   rw[hco] at c0 c1 c2 c3 c4;have hstep:=zvK off n (BZ ps (f+k)) p.t.length;rw[<-RN hp] at hstep;have hfo:=OV ps (f+k);have hfo2:=OV ps (f+k+1);have hTl2:=HI.out.len;obtain⟨fo,hfe⟩:=Qe (BZ ps (f+k));obtain⟨cr,hcr⟩:=Qe (BG p.t);obtain⟨pl,hpl⟩:=Qe p.t.length;obtain⟨pr,hpr⟩:=Qe p.room;obtain⟨pa,hpa⟩:=Qe p.at0;have hmm:=HMM.out;rw[hpl] at c3 p1 p2 hstep;rw[hpr] at c1;rw[hpa] at c0;rw[hcr] at c4;rw[hfe] at c2 hstep hfo hmm;obtain⟨tn,htn⟩:=Qe (Kq off n fo pl);rw[htn] at hstep;have htn2:tn<=1000000/\off-fo<=tn:=by rw[<-htn];unfold Kq;omega
   have CP:Hid (∀W:World,Qk 255 #[NN pa pr fo pl cr,Qi (off:Nat),Qi (n:Nat)] W λe w'=>e=.returned (.tuple #[Qi ((off-fo:Nat):Nat),Qi (tn:Nat)])/\Qb W w'):=λW=>by
    have:=zqh W pa pr fo pl cr off n Q0 Q0 hoN Q0
    rw[htn] at this;exact this
   unfold NN at CP;obtain⟨fr,hfr⟩:=Qe (off-fo);rw[hfr] at CP hstep htn2;have hm2:m+(tn-fr)=min (off+n) (BZ ps (f+(k+1)))-off:=by rw[hmm];exact hstep.symm
   have HM2:=Aa hm2
   have hm3:m+(tn-fr)<=1000000:=by
    rw[hm2]
    show _<=_
    have:BZ ps (f+(k+1))<=100000:=by rw[<-Lv];omega
    omega
   have w1:IntKind.i64.wrap ((tn:Int)-(fr:Int))=((tn-fr:Nat):Int):=(AU _ Q0).trans Q0
   have w2:IntKind.i64.wrap ((m:Int)+((tn-fr:Nat):Int))=((m+(tn-fr):Nat):Int):=(AU _ Q0).trans Q0
   have hki:(k:Int)<(M:Int):=Q0
   have hk0:(0:Int)<=(k:Int):=Q0
   have hd:decide ((k:Int)<(M:Int))=true:=Bl Q0
   have HB6:=Aa (Ay (Ag wr.heap.size wr) (.cells #[Qi (pa:Nat),Qi (pr:Nat),Qi (fo:Nat),Qi (pl:Nat),.int .u32 (cr:Nat)] 56));have HD6:=Aa (Al HB6.out HD5.out);have HR6:=Aa (Al HB6.out HR5.out);have HB7:=Aa (A9 HB6.out HB.out);clear hp hcr hpl hpr hpa hfe htn hfr hm2 hmm hfo hfo2 hTl2 hstep HV5 HB HD5 HR5 p3 p4 p5 p6 p7 HMM;have hbx:=Am wr (.cells #[Qi (pa:Nat),Qi (pr:Nat),Qi (fo:Nat),Qi (pl:Nat),.int .u32 (cr:Nat)] 56) _ rfl;have b0:=A8 hbx;have b1:=AA hbx;have b2:=Bk hbx;have b3:=CY hbx;have b4:=De hbx;clear hbx
   go_upto_region 12 with(fail)
   generalize wr.alloc (.cells #[Qi (pa:Nat),Qi (pr:Nat),Qi (fo:Nat),Qi (pl:Nat),.int .u32 (cr:Nat)] 56)=W6 at*
   have r1:=AA HR6.out;have r2:=Bk HR6.out
   go_wp2_with fail
   refine(CP.out W6).mono ?_;rintro e W8 ⟨rfl,hB8⟩;have HB8:=Aa (A9 hB8 HB7.out);clear b0 b1 b2 b3 b4 r1 r2 c0 c1 c2 c3 c4 hB8 HB7 HB6 HD6 HR6 CP
   go_wp2_with fail
   go_roundw
   case rel=>exact⟨k+1,m+(tn-fr),Q0,by go_num,rfl,hm3,HM2,HB8⟩
   case measure=>simp[intOf];omega
  ·obtain rfl:k=M:=Q0
   have hgm:got.length=m:=by
    have:=HGL.out;have:=HMM.out;have:=HM.out;rw[show f+k=blk by omega] at*
    omega
   have hd:decide ((k:Int)<(k:Int))=false:=AV Q0
   have r0:=A8 HR5.out;have r3:=CY HR5.out;have r5:=Df HR5.out;have r6:=ES HR5.out;have d1:=AA HD5.out;have htl:=HTL.out;have HB9:=Aa (A9 HB.out HB3.out)
   by_cases hs:st=3
   ·obtain⟨g',o',p,hq,-,hp,c0,c1,c2,c3,c4⟩:=NB HV5.out HNe.out blk hbp
    injection hq with hq
    injection hq with hq1 hq2
    subst hq1 hq2;rw[hp] at HP;have:=HP.out;injection this with this
    subst this;rw[if_pos hs] at htl;obtain⟨tl,htl2⟩:=Qe p.t.length;rw[htl2] at htl c3;have hbk:(blk:Int)<(N:Int):=Q0
    have hb0:(0:Int)<=(blk:Int):=Q0
    have b3:((st:Int)==3)=true:=by rw[hs];rfl
    clear HV5 HD5 HR5 HB HD3 HR3 HV3 HB3 hp HP c0 c1 c2 c4 HGL HTL HMM htl2 hs
    go_wp2_with fail
    go_ret
    exact⟨rfl,hlb ▸ HB9.out⟩
   ·rw[if_neg hs] at htl
    have b3:((st:Int)==3)=false:=Ez.2 Q0
    clear HV5 HD5 HR5 HB HD3 HR3 HV3 HB3 HGL HTL HMM HP hs
    go_wp2_with fail
    go_ret
    exact⟨rfl,hlb ▸ HB9.out⟩
theorem zwl(w:World)(a:List UInt8)(b:Value)(R c:Nat)(h i:Value)(f:Nat)(d:List Ai)(k:Au w b d)(j:Bz d)(r:BF)(g:Ph d r) :
 Qk 216 #[Fl a b R c h i f,L6 r] w λe l=>e=.returned (.bool true)/\Qb w l:=by
 rcases g with rfl|g
 ·exact zuF w a b R c h i f
 ·exact zvl w a b R c h i f d k j r g
attribute [local go_sem] Oper.semAt_some
theorem RY:Dh 77 9 (.string ⟨#[]⟩) 1 16:=⟨Tryz.underlying77,Q2,rfl,Q5⟩
theorem R8(L:List (List UInt8))(t:List UInt8):JU (L++[t])=JU L++[.string ⟨t.toArray⟩]:=by simp[JU]
structure J2(g c b1:Nat)(w:World)(pre:List (List UInt8))(W:World):Prop where
 bel:Below g w W
 st:∃v,Qh W c (Obj.cells #[v] 77 (0,0))/\W.ownsRow (c+1) 9 1 v pre.length (JU pre)
theorem J2.own{n m k D:Nat}{w:World}(x:n<=w.heap.size)(u:n<=D):OwnFrom D (λl W=>J2 n m k w l W):=by
 intro l W p y h i g
 have s:∀a c t d,Qh W a (Obj.cells c t d)->Qh p a (Obj.cells c t d):=λa c t d b=>(i.block a (Aj b) (λe=>by
  obtain⟨-,o,j,f⟩:=g a e.symm;rw[b] at j;cases j
  cases f)).trans b
 obtain⟨v,f,q⟩:=h.st;exact⟨h.bel.grown i (by have:=h.bel.size;omega) (λa b=>by have:=(g a b).1;omega),⟨v,s _ _ _ _ f,Nt q i (λr e=>(g r e).2)⟩⟩
theorem ztv(w:World)(g a d:Nat)(s:ByteArray)(hs:s.size<=1000000)(o:Nat)(m:1<=o)(h9:o<=9)(a0:Qg w a #[.string s] 9)(a1:Qg w d #[Qi (o:Nat)] 3)(c8:a≠d)(c6:g<=a) :
 Qk 100 #[.slice none 0 0,.func (.func 101) #[] #[.pointer (some ⟨a,0,none⟩),.pointer (some ⟨d,0,none⟩)]] w λe a6=>∃v,e=.returned v/\BK a6 v (Ev (40*o:Nat) s.data.toList)/\Below g w a6:=by
 have a4:=RO ((40*o:Nat):Int) Q0 _ s.data.toList (Af _)
 have a3:s.data.toList.length=s.size:=by simp
 rw[a3] at a4;obtain⟨b1,R⟩:=Qe (Ev ((40*o:Nat):Int) s.data.toList);obtain⟨D,d5⟩:∃D:Nat,8<=D:=⟨8,Q0⟩
 have c4:1<=D:=Q0
 have x1:=Aj a0;have x2:=Aj a1;refine(Em (n:=D)).1 ?_;refine Lr Tryz.func100 rfl trivial ?_ rfl;simp only[Tryz.ntmps100,F6,Bt,D4,Nat.reduceAdd,Nat.reduceSub,GM,GL,GQ,GN,C6,Di]
 gi_wp2_with fail
 obtain⟨c,B⟩:=Qe w.heap.size;have X:Qh (w.alloc (.cells #[.slice none 0 0] 77)) c (Obj.cells #[.slice none 0 0] 77 (0,0)):=Am _ _ _ B.symm;have J:=Ay (Ag w.heap.size w) (.cells #[.slice none 0 0] 77);have Y:=(J.block a x1).trans a0;have Z:=(J.block d x2).trans a1;have c5:(w.alloc (.cells #[.slice none 0 0] 77)).heap.size=c+1:=by simp[B]
 have V:Below g w (w.alloc (.cells #[.slice none 0 0] 77)):=J.mono Q0
 have y:Hid (g<=w.heap.size):=by show _<=_;omega
 have M:Hid (c=w.heap.size):=B.symm;rw[B] at x1 x2 |-;clear J B a0 a1;generalize w.alloc (.cells #[.slice none 0 0] 77)=a5 at*
 refine Ug (n:=D) (ib:=a) c4 (gf:=101) (lb:=#[.pointer (some ⟨a,0,none⟩),.pointer (some ⟨d,0,none⟩)]) rfl zot (encs:=Jf) (λ_=>rfl) S8 (λk=>k≠a/\k≠d)
  (zxw (D-1) Q0 a d s hs o m h9 (λk=>k≠a/\k≠d) a5 Y Z (λh=>h.1 rfl) (λh=>h.2 rfl) c8) (Ag _ _) Q0
  (λz W=>J2 g c a w z W) (λ_ _ _=>False) (J2.own y.out Q0)
  (λz b0 u h=>⟨h.bel.setCell (p:=⟨a,0,none⟩) c6 u,by
    obtain⟨v,A,h3⟩:=h.st;exact⟨v,(Bg _ _ _ _ (by show c≠a;omega)).trans A,Dq h3 ((Ab.refl a b0).set 0 u) Q0⟩⟩)
  (λ_ _ _ _ _ h _ _=>h) ⟨V,_,X,GU _ _ _ _⟩
  (λx P W=>S8 x W/\P = { tmps:=#[.slice none 0 0,.func (.func 101) #[] #[.pointer (some ⟨a,0,none⟩),.pointer (some ⟨d,0,none⟩)],.pointer (some ⟨c,0,none⟩),undef,.slice none 0 0,.string ⟨x.toArray⟩,.func (.func 101) #[] #[.pointer (some ⟨a,0,none⟩),.pointer (some ⟨d,0,none⟩)],.string ⟨x.toArray⟩,undef,undef,undef,undef,undef],defers:=[] })
  (λx P s W d4 e3 h e1 hr=>h)
  ?assign ?body ?done ?stop
 case assign =>
  intro b2 z x W d2 f a2 c7 b6;simp only[Jf]
  gi_wp2_with fail
  exact b6 _ _ (Pz _ _) (Ao.refl _ _) f ⟨a2,rfl⟩
 case body =>
  rintro b2 z x P W f ⟨a2,rfl⟩ c7 d1;obtain⟨v,i,l⟩:=f.st;obtain⟨I,H,rfl⟩:=EN l;obtain⟨N,S⟩:=Qe z.length;have d7:N<=1000000:=Q0
  rw[S] at i l;have k0:=(Ae i 0).trans rfl;have f0:=Ah i 0;have O:=Aa f;have c9:=Aa i;have F:=Aa l;have b3:=Aa S;have a7:Hid (w.heap.size<=W.heap.size):=f.bel.size;have d9:=Aj i;obtain⟨T,U⟩:=Qe ((⟨x.toArray⟩:ByteArray):ByteArray);rw[U];have b4:=Aa U;have e0:1<=D-1-1:=Q0
  clear f i l S d1 X Y Z V U a2 a4 a3
  gi_wp2_with
   (gi_at_builtin
    refine V9 RY rfl _ _ rfl (c+1) _ N (JU z) rfl (F.out.alloc _) ⟨W.heap.size,0,none⟩ 1 1 [.string T] rfl rfl (λj u G=>by rw[show(⟨W.heap.size,0,none⟩:Addr).add j=⟨W.heap.size,j,none⟩ by simp[Addr.add];intro h;exact h.symm];rw[Ae (Am _ _ _ rfl) j];simpa using G) (by intro u G;simp at G;subst G;rfl) Q0 Q0 Q4 ?_
    intro q2 c2 t a9 a8;have Q:=Ay (Ag W.heap.size W) (.cells #[.string T] 9);have C:(W.alloc (.cells #[.string T] 9)).grownBy t (Value.slice I N H).ownBlock:=a8;have L:∀r,(Value.slice I N H).ownBlock=some r->c+1<=r:=λr e=>Dm F.out e;have K:=(C.block c Q4 (λe=>by have:=L c e.symm;omega)).trans (Bb (.cells #[.string T] 9) c9.out)
    have e2:=(Ae K 0).trans rfl;have d6:=Ah K 0;have c3:=Aa K;have c0:Hid (KeepsFrom a5.heap.size W t):=(PP Q).trans (V7 (F.out.alloc _) C)
    have b9:Hid (Ao (λk=>k≠a/\k≠d) W t):=λb cs d3 fz hb m=>by
     have d8:b<c:=by
      have:b=a\/b=d:=by
       rcases Classical.em (b=a) with h|h
       ·exact .inl h
       ·rcases Classical.em (b=d) with A|A
        ·exact .inr A
        ·exact absurd ⟨h,A⟩ hb
      rcases this with rfl|rfl<;>assumption
     exact(C.block b Q4 (λe=>by have:=L b e.symm;omega)).trans (Bb (.cells #[.string T] 9) m)
    have b7:Hid (Below g w t):=(O.out.bel.trans (Q.mono (by have:=y.out;have:=a7.out;omega))).grown C (by have:=y.out;have:=a7.out;simp;omega) (λr e=>by have:=L r e;have:=y.out;have:=M.out;omega)
    have d0:=Aa a9;clear a9 a8 C Q L K)
  refine⟨c0.out.trans ((FO t _ _).from _),b9.out.trans ((Ao.refl _ _).set (q:=⟨c,0,none⟩) ⟨by show c≠a;omega,by show c≠d;omega⟩ _),?_⟩
  refine⟨b7.out.setCell (p:=⟨c,0,none⟩) (by show g<=c;have:=y.out;have:=M.out;omega) _,⟨_,Ak c3.out 0 _,?_⟩⟩
  have m:=Dq d0.out ((Ab.refl c t).set 0 (.slice q2 (N+1) c2)) (Kj c);rw[AJ,R8,b3.out,b4.out];exact m
 case done =>
  rintro E xs W b5 rfl f hd;obtain⟨v,i,l⟩:=f.st;rw[R] at l;obtain⟨I,H,rfl⟩:=EN l;have k0:=(Ae i 0).trans rfl;have O:=Aa f;have F:=Aa l;have c1:=Aa R;have b8:Hid (w.heap.size<=E/\g<=E):=by show _/\_;have:=M.out;omega
  clear f i l R X Y Z V c5 b5 a4 a3
  gi_wp2_with fail
  refine⟨Q6,.inl ⟨_,_,rfl,J9 hd,?_⟩⟩
  refine⟨_,Nk rfl _ _ _,_,rfl,?_,?_⟩
  ·have m:=Nt F.out (Mu W E (.deferred none)) (λr e=>by cases e;exact⟨_,hd,rfl⟩)
   show BK _ (.slice I b1.length H) _
   rw[c1.out];exact Rd.own m
  ·exact O.out.bel.trans (Kn (w:=w) y.out _ E _ _ b8.out.1 hd rfl rfl)
 case stop=>exact λ_ _ _ _ _ _ h _=>h.elim
theorem zqJ(w:World)(g a d:Nat)(s:ByteArray)(t:s.size<=1000000)(b:Nat)(p:1<=b)(r:b<=9)(j:Qg w a #[.string s] 9)(k:Qg w d #[Qi (b:Nat)] 3)(m:a≠d)(l:g<=a) :
 Qk 37 #[.func (.func 101) #[] #[.pointer (some ⟨a,0,none⟩),.pointer (some ⟨d,0,none⟩)]] w λe i=>∃v,e=.returned v/\BK i v (Ev (40*b:Nat) s.data.toList)/\Below g w i:=by
 have C:=Aa (ztv w g a d s t b p r j k m l);clear j k l m
 go_enter Tryz.func37,Tryz.ntmps37
 go_wp2_with fail
 refine C.out.mono ?_;rintro e u ⟨v,rfl,f,h⟩;obtain⟨q,c,rfl⟩:=f.shape;have o:=Aa f;have n:=Aa h;clear f h C
 go_wp2_with fail
 go_ret
 exact⟨_,rfl,o.out,n.out⟩
theorem zAC(a:Nat)(f:1<=a)(g:a<=9)(w:World):Qk 36 #[Qi (a:Nat)] w λe b=>e=.returned (.bool true)/\w=b:=by
 have c:decide ((1:Int)<=(a:Int))=true:=Bl Q0
 have d:decide ((a:Int)<=9)=true:=Bl Q0
 go_enter Tryz.func36,Tryz.ntmps36
 go_wp2_with fail
 go_ret
 exact⟨rfl,rfl⟩
def I8(a:Nat)(x:List UInt8):List Bool:=Ij a (Ev (40*a:Nat) x) (Gj ((Ev (40*a:Nat) x).map BG))
theorem zmZ(a:Nat)(d:1<=a)(x:List UInt8):∀t∈Ev (40*a:Nat) x,ML (40*a) t:=λt c=>by
 obtain⟨b,e⟩:=zx1 ((40*a:Nat):Int) Q0 x t c
 exact⟨b,Q0⟩
theorem zy8(w:World)(s:ByteArray)(J:s.size<=1000)(a:Nat)(i:1<=a)(k:a<=9) :
 Qk 8 #[.string s,Qi (a:Nat)] w λe f=>e=.returned (.tuple #[.string (Ba (I8 a s.data.toList)),Qi 0])/\Qb w f:=by
 have H:=RO ((40*a:Nat):Int) Q0 _ s.data.toList (Af _)
 have F:s.data.toList.length=s.size:=by simp
 have A:=Aa (zAC a i k);have z:=Aa (λW=>zyp s (a:Nat) W);have j:Hid (∀W b,Qg W b #[.string s] 9->Qg W (b+1) #[Qi (a:Nat)] 3->Qk 37 #[.func (.func 101) #[] #[.pointer (some ⟨b,0,none⟩),.pointer (some ⟨b+1,0,none⟩)]] W λe f=>∃v,e=.returned v/\BK f v (Ev (40*a:Nat) s.data.toList)/\Below b W f):=λW b d E=>zqJ W b b (b+1) s Q0 a i k d E Q0 (Af _)
 have h:Hid (∀W v,BK W v (Ev (40*a:Nat) s.data.toList)->Qk 16 #[Qi (a:Nat),v] W λe f=>e=.returned (.tuple #[.string (Ba (I8 a s.data.toList)),Qi 0])/\Qb W f):=λW v g=>zvQ W a v _ g i k (zmZ a i _) Q0
 obtain⟨G,l⟩:=Qe (Ba (I8 a s.data.toList));rw[l] at h |-;obtain⟨L,m⟩:=Qe (Ev (40*a:Nat) s.data.toList);rw[m] at h j;clear H F l m
 go_enter Tryz.func8,Tryz.ntmps8
 go_wp2_with fail
 refine(A.out _).mono ?_;rintro e B ⟨rfl,rfl⟩
 go_wp2_with fail
 refine(z.out _).mono ?_;rintro e B ⟨rfl,rfl⟩;obtain⟨b,d⟩:=Qe w.heap.size;have u:=Ay (Ay (Ag w.heap.size w) (.cells #[.string s] 9)) (.cells #[Qi (a:Nat)] 3);have o:=Aa (j.out ((w.alloc (.cells #[.string s] 9)).alloc (.cells #[Qi (a:Nat)] 3)) b (Bb _ (Am _ _ _ d.symm)) (Am _ _ _ (by simp[d])))
 have r:=Aa u;have D:Hid (w.heap.size<=b):=EV d;rw[d];clear u j d;generalize(w.alloc (.cells #[.string s] 9)).alloc (.cells #[Qi (a:Nat)] 3)=I at*
 go_wp2_with fail
 refine o.out.mono ?_;rintro e n ⟨v,rfl,g,x⟩;have t:Hid (Qb w n):=r.out.trans (x.mono D.out);have p:=Aa (h.out n v g);obtain⟨q,c,rfl⟩:=g.shape;clear g x r o h
 go_wp2_with fail
 refine p.out.mono ?_;rintro e K ⟨rfl,y⟩;have C:=Aa (A9 y t.out);clear y t p
 go_wp2_with fail
 go_ret2
 exact⟨rfl,C.out⟩
