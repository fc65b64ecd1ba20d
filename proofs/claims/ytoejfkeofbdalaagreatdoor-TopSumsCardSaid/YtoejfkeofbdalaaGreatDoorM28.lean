import Derived.Test.YtoejfkeofbdalaaGreatDoorM27
import Derived.Test.YtoejfkeofbdalaaGreatDoorM14
set_option linter.unusedVariables false
set_option maxRecDepth 100000
set_option maxHeartbeats 8000000
namespace Go.Proofs.YtoejfkeofbdalaaGreatDoor
open Go.RowKit
def zpt (m:List Int) (most:Int):Int:=if zpk m then 1 else if most<(dec m).length then 4 else 0
def zpn (m:List Int) (most:Int):List Int:=if zpk m then [] else if most<(dec m).length then [] else dec m
theorem zmf:dec []=[]:=rfl
theorem ztX {rest:List Int} (h:∀ x∈rest,0≤x):Dig (rest.take (zaQ 1 rest)):=by
  intro x hx;obtain⟨i,hi⟩:=List.getElem?_of_mem hx;rw[List.getElem?_take] at hi;split at hi
  · rename_i hlt
    have h1:=ziL hlt hi;have h0:=h x (List.mem_of_getElem? hi);omega
  · cases hi
theorem znN (w:World) (v:Value) (xs:List Int) (most:Int) (hv:IsInts w w.heap.size v xs) (hlen:xs.length≤1099511627776) (hi:I64s xs) (hm0:-9223372036854775808≤most) (hm:most≤1099511627776) :
    Calls Tryz.prog 339 #[v,.int .i64 most] w fun e w'=>∃ u,e=.returned (.tuple #[u,.int .i64 (zpt xs most)])∧OwnInts w' w.heap.size u (zpn xs most)∧Below w.heap.size w w':=by
  have hmf:=hmf;have C1:=Lib.hid (zkw w v xs hv (by omega))
  obtain⟨A,ca,rfl,hc1,hc2⟩:=hv.shape;obtain⟨b1,hb1⟩:∃ b,zpk xs=b:=⟨_,rfl⟩;rw[hb1] at C1;have Hb1:=Lib.hid hb1;obtain⟨N,hN⟩:∃ N,xs.length=N:=⟨_,rfl⟩;have hXl:xs.length≤1099511627776:=hlen;rw[hN] at hv hc1 hlen C1 ⊢;have HN:=Lib.hid hN;have Hv:=Lib.hid hv;clear hb1 hv hN;cases b1 with
  | true =>
    go_enter Tryz.func339,Tryz.ntmps339
    go_wp2_with fail
    refine C1.out.mono ?_;rintro e w1 ⟨rfl,hB1⟩
    go_wp2_with fail
    go_ret2
    exact⟨_,by rw[zpt,Hb1.out];rfl,by rw[zpn,Hb1.out];exact OwnInts.nil _ _,hB1⟩
  | false =>
    have hels:∀ x∈xs,x≤9223372036854775807∧0≤x:=by
      intro x hx;have h1:=Hb1.out;unfold zpk at h1;rw[List.any_eq_false] at h1;have h1:=h1 x hx;have h2:=hi x hx;simp at h1;omega
    have HE:Hid (zpt xs most=if most<(dec xs).length then 4 else 0):=by show _=_;rw[zpt,Hb1.out];rfl
    have HV:Hid (zpn xs most=if most<(dec xs).length then [] else dec xs):=by show _=_;rw[zpn,Hb1.out];rfl
    go_enter Tryz.func339,Tryz.ntmps339
    go_wp2_with fail
    refine C1.out.mono ?_;rintro e w1 ⟨rfl,hB1⟩;have hz1:=hB1.size;obtain⟨b,hb⟩:∃ b,w1.heap.size=b:=⟨_,rfl⟩;obtain⟨w2,hw2⟩:∃ w2,w1.alloc (.cells #[.slice none 0 0] 282)=w2:=⟨_,rfl⟩;have hL:LB w2 b []:=⟨_,by rw[←hw2];exact zae _ _ _ hb.symm,OwnInts.nil _ _⟩
    have hB:Below w.heap.size w w2:=by rw[←hw2];exact hB1.alloc hz1 _
    have hbw:w.heap.size≤b:=by omega
    have HW:=Lib.hid hw2;have HBB:=Lib.hid hb;have HL:=Lib.hid hL;clear hw2 hb hL C1 hB1
    go_wp2
    rw[HBB.out,HW.out]
    go_loopw [0] (fun mv wr=>∃ (v:Value) (rest done:List Int),mv=v∧IsInts w w.heap.size v rest∧LB wr b done∧Hid (done++dec rest=dec xs)∧Below w.heap.size w wr∧Hid (∀ x∈rest,x≤9223372036854775807∧0≤x)∧rest.length≤1099511627776∧done.length≤1099511627777) (fun mv _=>zug mv)
    case atStart=>exact⟨_,xs,[],rfl,Hv.out,HL.out,rfl,hB,hels,by have:=HN.out;omega,by simp⟩
    case round =>
      obtain⟨v,rest,done,rfl,hv,hL,heq,hBr,hels2,hrl,hdl⟩:=hrel;obtain⟨A,ca,rfl,hc1,hc2⟩:=hv.shape;obtain⟨N,hN⟩:∃ N,rest.length=N:=⟨_,rfl⟩;rw[hN] at hv hc1 hrl ⊢;have HNr:=Lib.hid hN;have HLr:=Lib.hid hL;have hbz:=hL.lt;have hBz:=hBr.size;clear hN HL Hv hels hL
      by_cases hpos:0<N
      · obtain⟨k,hk⟩:∃ k,zaQ 1 rest=k:=⟨_,rfl⟩
        have hkN:=zfd 1 rest;have hdrow:=zuJ rest;have hdg:=ztX (rest:=rest) fun x hx=>(hels2.out x hx).2;rw[hk] at hkN hdrow hdg;rw[HNr.out] at hkN;have CR:=Lib.hid (znb wr _ rest 1 ((hv.below hBr (Nat.le_refl _)).mono hBr.size) (by have:=HNr.out;omega))
        rw[hk] at CR;obtain⟨v1,hv1,⟨q1,c1,rfl⟩,_,_,hsl1⟩:=hv.cut 0 k (by omega) hkN
        obtain⟨v2,hv2,⟨q2,c2,rfl⟩,_,hsl2,_⟩:=hv.cut k N hkN (Nat.le_refl _);have hsl1:=hsl1 rfl;have hsl2:=hsl2 rfl;rw[Nat.sub_zero] at hv1 hsl1;rw[show ((rest.take N).drop k)=rest.drop k by rw[←HNr.out,List.take_length]] at hv2
        rw[List.drop_zero] at hv1;have hnE:zu3 (rest.take k)=if 1099511627776<zhP (rest.take k) then 4 else 0:=by rw[zu3,zhJ hdg];rfl
        have hnV:zu2 (rest.take k)=if 1099511627776<zhP (rest.take k) then (0:Int) else (zhP (rest.take k):Nat):=by rw[zu2,zhJ hdg];rfl
        obtain⟨n,hn⟩:∃ n,zhP (rest.take k)=n:=⟨_,rfl⟩;rw[hn] at hnE hnV hdrow;have HnE:=Lib.hid hnE;have HnV:=Lib.hid hnV;have Hdrow:=Lib.hid hdrow;have Hv1:=Lib.hid hv1;have Hv2:=Lib.hid hv2;have hl1:(rest.take k).length≤1099511627776:=by rw[List.length_take];omega
        clear hk hdg hn hnE hnV hdrow hv1 hv2;have hpos':(0:Int)<(N:Int):=by omega
        go_wp2_with fail
        refine CR.out.mono ?_;rintro e w3 ⟨rfl,hB3⟩;have HL3:Hid (LB w3 b done):=HLr.out.below hB3;have hBw3:Below w.heap.size w w3:=hBr.trans (hB3.mono hBz);have hz3:=hB3.size;clear hBr hB3 HLr CR
        go_wp2_with fail
        refine (zmk _ (rest.take k) w3 ((Hv1.out.below hBw3 (Nat.le_refl _)).mono hBw3.size) (by omega)).mono ?_
        rintro e w4 ⟨rfl,hB4⟩;have HL4:Hid (LB w4 b done):=HL3.out.below hB4;have hBw4:Below w.heap.size w w4:=hBw3.trans (hB4.mono hBw3.size);have hz4:=hB4.size;clear hBw3 hB4 HL3;rw[HnE.out,HnV.out];obtain⟨vl,hvl,hol⟩:=HL4.out;obtain⟨q,c,rfl⟩:=hol.shape;have hcl:w4.cell? ⟨b,0,none⟩=some (.slice q done.length c):=zaa hvl 0;clear hvl hol
        by_cases hbig:1099511627776<n
        · rw[if_pos hbig,if_pos hbig]
          have hlong:most<((dec xs).length:Int):=by
            have h2:=congrArg List.length heq.out;rw[Hdrow.out] at h2;simp only[List.length_append,zbd] at h2;omega
          have hE:Hid (zpt xs most=4):=by show _=_;rw[HE.out,if_pos hlong]
          have hV:Hid (zpn xs most=[]):=by show _=_;rw[HV.out,if_pos hlong]
          clear HnE HnV Hdrow hlong
          go_wp2
          go_ret2
          exact⟨.slice none 0 0,by rw[hE.out];rfl,by rw[hV.out];exact OwnInts.nil _ _,hBw4⟩
        · rw[if_neg hbig,if_neg hbig]
          by_cases hneg:most<0
          · by_cases hgt:-(done.length:Int)<(n:Int)
            · have hlong:most<((dec xs).length:Int):=by
                have h2:=congrArg List.length heq.out;rw[Hdrow.out] at h2;simp only[List.length_append,zbd] at h2;omega
              have hE:Hid (zpt xs most=4):=by show _=_;rw[HE.out,if_pos hlong]
              have hV:Hid (zpn xs most=[]):=by show _=_;rw[HV.out,if_pos hlong]
              clear HnE HnV Hdrow hlong
              go_wp2
              go_ret2
              exact⟨.slice none 0 0,by rw[hE.out];rfl,by rw[hV.out];exact OwnInts.nil _ _,hBw4⟩
            · clear HnE HnV
              obtain⟨cs,hcs,hmk⟩:=za2 n (by omega)
              have Hcs:=Lib.hid hcs;have hlm:(List.replicate n (0:Int)).length=n:=List.length_replicate;have hmade:Hid (IsInts (w4.alloc (.cells cs 3)) (w4.heap.size+1) (.slice (some ⟨w4.heap.size,0,none⟩) n n) (zbS n)):=IsInts.new w4 (List.replicate n 0) cs _ _ rfl hlm.symm hcs (by rw[hlm];simp only[maxLen];omega)
              have hmk2:=hmk w4;clear hcs hlm hmk
              go_wp2_with fail
              refine (zcJ _ b done (zbS n) _ (HL4.out.below ((Below.refl _ _).alloc (Nat.le_refl _) _)) (hmade.out.mono (by simp)) (by rw[zbd];omega)).mono ?_
              rintro e w5 ⟨rfl,hL5,hB5⟩;have HL5:=Lib.hid hL5;have hBw5:Below w.heap.size w w5:=(hBw4.alloc (by omega) _).trans (hB5.mono hbw)
              have hz5:=hL5.lt;have hz5':=hB5.size;simp at hz5';have hd5:(done++zbS n).length≤1099511627776:=by rw[List.length_append,zbd];omega
              clear hBw4 hB5 HL4 hL5 hmade hmk2 Hcs hcl
              by_cases hkn:k<N
              · have hx0:(0:Int)<((N-k:Nat):Int):=by omega
                have hN0:0<N-k:=by omega
                obtain⟨g,o,rfl,hg,hc⟩:=Hv2.out.at 0 (by rw[List.length_drop];have:=HNr.out;omega)
                obtain⟨x,hx⟩:∃ x,(rest.drop k)[0]?.getD 0=x:=⟨_,rfl⟩;rw[hx] at hc
                obtain⟨r',hr'⟩:∃ r',rest.drop k=x::r':=by
                  have hl:k<rest.length:=by have:=HNr.out;omega
                  refine⟨rest.drop (k+1),?_⟩;rw[List.drop_eq_getElem_cons hl];rw[List.getElem?_drop,Nat.add_zero,List.getElem?_eq_getElem hl] at hx;simp only[Option.getD_some] at hx;rw[hx]
                have hxb:x≤9223372036854775807∧0≤x:=hels2.out x (List.mem_of_mem_drop (i:=k) (by rw[hr'];exact List.mem_cons_self))
                have hcell:w5.cell? ⟨g,o,none⟩=some (.int .i64 x):=(hBw5.cell (p:=⟨g,o,none⟩) hg).trans (by simpa using hc)
                obtain⟨v3,hv3,⟨q3,c3,rfl⟩,_,hsl3,_⟩:=Hv2.out.cut 1 (N-k) (by omega) (Nat.le_refl _)
                have hsl3:=hsl3 rfl;simp only[Int.natCast_one] at hsl3;have hlx:(x::r').length=N-k:=by rw[←hr',List.length_drop,HNr.out]
                have hv3':IsInts w w.heap.size (.slice q3 (N-k-1) c3) r':=by
                  rw[hr'] at hv3;have e:((x::r').take (N-k)).drop 1=r':=by rw[←hlx,List.take_length];rfl
                  rw[e] at hv3;exact hv3
                have Hv3:=Lib.hid hv3';have hlr:r'.length=N-k-1:=by simp at hlx;omega
                have Hlr:=Lib.hid hlr;have hels':Hid (∀ y∈r',y≤9223372036854775807∧0≤y):=fun y hy=>hels2.out y (List.mem_of_mem_drop (i:=k) (by rw[hr'];exact List.mem_cons_of_mem _ hy))
                have heq':Hid ((done++zbS n)++[x-1]++dec r'=dec xs):=by
                  show _=_
                  rw[←heq.out,Hdrow.out,hr'];simp[zdD]
                have hxx:-9223372036854775808≤x-1:=by omega
                clear Hdrow hx hc hr' hv3 hv3' hlr hlx heq hels2 hkN
                go_wp2_with fail
                refine (zcJ _ b (done++zbS n) [x-1] _ (HL5.out.below ((Below.refl _ _).alloc (Nat.le_refl _) _)) ((IsInts.new w5 [x-1] _ _ _ rfl rfl rfl (by simp[maxLen])).mono (by simp)) (by simp only[List.length_cons,List.length_nil];omega)).mono ?_
                rintro e w6 ⟨rfl,hL6,hB6⟩;have HL6:=Lib.hid hL6;have hBw6:Below w.heap.size w w6:=(hBw5.alloc (by omega) _).trans (hB6.mono hbw)
                clear hL6 hB6 hBw5 HL5
                go_wp2
                go_roundw
                case rel=>exact⟨_,r',_,rfl,Hv3.out,HL6.out,heq',hBw6,hels',by have:=Hlr.out;omega,by rw[List.length_append];simp only[List.length_cons,List.length_nil];omega⟩
                case measure=>simp[zug];omega
              · have hr0:rest.drop k=[]:=List.drop_eq_nil_of_le (by have:=HNr.out;omega)
                have heq':Hid ((done++zbS n)++dec []=dec xs):=by
                  show _=_
                  rw[←heq.out,Hdrow.out,hr0];simp[zdD,zmf]
                have Hv3:=Hv2;have hkn':N-k=0:=by omega
                rw[hkn'] at Hv3 hsl2;rw[hr0] at Hv3;clear Hdrow hr0 heq hels2 hkN Hv2
                go_wp2
                go_roundw
                case rel=>exact⟨_,[],_,rfl,Hv3.out,HL5.out,heq',hBw5,fun y hy=>(by simp at hy),by simp,by omega⟩
                case measure=>simp[zug];omega
          · by_cases hgt:most-(done.length:Int)<(n:Int)
            · have hlong:most<((dec xs).length:Int):=by
                have h2:=congrArg List.length heq.out;rw[Hdrow.out] at h2;simp only[List.length_append,zbd] at h2;omega
              have hE:Hid (zpt xs most=4):=by show _=_;rw[HE.out,if_pos hlong]
              have hV:Hid (zpn xs most=[]):=by show _=_;rw[HV.out,if_pos hlong]
              clear HnE HnV Hdrow hlong
              go_wp2
              go_ret2
              exact⟨.slice none 0 0,by rw[hE.out];rfl,by rw[hV.out];exact OwnInts.nil _ _,hBw4⟩
            · clear HnE HnV
              obtain⟨cs,hcs,hmk⟩:=za2 n (by omega)
              have Hcs:=Lib.hid hcs;have hlm:(List.replicate n (0:Int)).length=n:=List.length_replicate;have hmade:Hid (IsInts (w4.alloc (.cells cs 3)) (w4.heap.size+1) (.slice (some ⟨w4.heap.size,0,none⟩) n n) (zbS n)):=IsInts.new w4 (List.replicate n 0) cs _ _ rfl hlm.symm hcs (by rw[hlm];simp only[maxLen];omega)
              have hmk2:=hmk w4;clear hcs hlm hmk
              go_wp2_with fail
              refine (zcJ _ b done (zbS n) _ (HL4.out.below ((Below.refl _ _).alloc (Nat.le_refl _) _)) (hmade.out.mono (by simp)) (by rw[zbd];omega)).mono ?_
              rintro e w5 ⟨rfl,hL5,hB5⟩;have HL5:=Lib.hid hL5;have hBw5:Below w.heap.size w w5:=(hBw4.alloc (by omega) _).trans (hB5.mono hbw)
              have hz5:=hL5.lt;have hz5':=hB5.size;simp at hz5';have hd5:(done++zbS n).length≤1099511627776:=by rw[List.length_append,zbd];omega
              clear hBw4 hB5 HL4 hL5 hmade hmk2 Hcs hcl
              by_cases hkn:k<N
              · have hx0:(0:Int)<((N-k:Nat):Int):=by omega
                have hN0:0<N-k:=by omega
                obtain⟨g,o,rfl,hg,hc⟩:=Hv2.out.at 0 (by rw[List.length_drop];have:=HNr.out;omega)
                obtain⟨x,hx⟩:∃ x,(rest.drop k)[0]?.getD 0=x:=⟨_,rfl⟩;rw[hx] at hc
                obtain⟨r',hr'⟩:∃ r',rest.drop k=x::r':=by
                  have hl:k<rest.length:=by have:=HNr.out;omega
                  refine⟨rest.drop (k+1),?_⟩;rw[List.drop_eq_getElem_cons hl];rw[List.getElem?_drop,Nat.add_zero,List.getElem?_eq_getElem hl] at hx;simp only[Option.getD_some] at hx;rw[hx]
                have hxb:x≤9223372036854775807∧0≤x:=hels2.out x (List.mem_of_mem_drop (i:=k) (by rw[hr'];exact List.mem_cons_self))
                have hcell:w5.cell? ⟨g,o,none⟩=some (.int .i64 x):=(hBw5.cell (p:=⟨g,o,none⟩) hg).trans (by simpa using hc)
                obtain⟨v3,hv3,⟨q3,c3,rfl⟩,_,hsl3,_⟩:=Hv2.out.cut 1 (N-k) (by omega) (Nat.le_refl _)
                have hsl3:=hsl3 rfl;simp only[Int.natCast_one] at hsl3;have hlx:(x::r').length=N-k:=by rw[←hr',List.length_drop,HNr.out]
                have hv3':IsInts w w.heap.size (.slice q3 (N-k-1) c3) r':=by
                  rw[hr'] at hv3;have e:((x::r').take (N-k)).drop 1=r':=by rw[←hlx,List.take_length];rfl
                  rw[e] at hv3;exact hv3
                have Hv3:=Lib.hid hv3';have hlr:r'.length=N-k-1:=by simp at hlx;omega
                have Hlr:=Lib.hid hlr;have hels':Hid (∀ y∈r',y≤9223372036854775807∧0≤y):=fun y hy=>hels2.out y (List.mem_of_mem_drop (i:=k) (by rw[hr'];exact List.mem_cons_of_mem _ hy))
                have heq':Hid ((done++zbS n)++[x-1]++dec r'=dec xs):=by
                  show _=_
                  rw[←heq.out,Hdrow.out,hr'];simp[zdD]
                have hxx:-9223372036854775808≤x-1:=by omega
                clear Hdrow hx hc hr' hv3 hv3' hlr hlx heq hels2 hkN
                go_wp2_with fail
                refine (zcJ _ b (done++zbS n) [x-1] _ (HL5.out.below ((Below.refl _ _).alloc (Nat.le_refl _) _)) ((IsInts.new w5 [x-1] _ _ _ rfl rfl rfl (by simp[maxLen])).mono (by simp)) (by simp only[List.length_cons,List.length_nil];omega)).mono ?_
                rintro e w6 ⟨rfl,hL6,hB6⟩;have HL6:=Lib.hid hL6;have hBw6:Below w.heap.size w w6:=(hBw5.alloc (by omega) _).trans (hB6.mono hbw)
                clear hL6 hB6 hBw5 HL5
                go_wp2
                go_roundw
                case rel=>exact⟨_,r',_,rfl,Hv3.out,HL6.out,heq',hBw6,hels',by have:=Hlr.out;omega,by rw[List.length_append];simp only[List.length_cons,List.length_nil];omega⟩
                case measure=>simp[zug];omega
              · have hr0:rest.drop k=[]:=List.drop_eq_nil_of_le (by have:=HNr.out;omega)
                have heq':Hid ((done++zbS n)++dec []=dec xs):=by
                  show _=_
                  rw[←heq.out,Hdrow.out,hr0];simp[zdD,zmf]
                have Hv3:=Hv2;have hkn':N-k=0:=by omega
                rw[hkn'] at Hv3 hsl2;rw[hr0] at Hv3;clear Hdrow hr0 heq hels2 hkN Hv2
                go_wp2
                go_roundw
                case rel=>exact⟨_,[],_,rfl,Hv3.out,HL5.out,heq',hBw5,fun y hy=>(by simp at hy),by simp,by omega⟩
                case measure=>simp[zug];omega
      · have hr0:rest=[]:=List.eq_nil_of_length_eq_zero (by have:=HNr.out;omega)
        have hfin:Hid (done=dec xs):=by
          show _=_
          have h:=heq.out;rw[hr0,zmf,List.append_nil] at h;exact h
        obtain⟨vl,hvl,hol⟩:=HLr.out;obtain⟨q,c,rfl⟩:=hol.shape;have hcl:wr.cell? ⟨b,0,none⟩=some (.slice q done.length c):=zaa hvl 0;have Hol:=Lib.hid hol;clear hvl hol hr0 heq hels2 HLr
        by_cases hgt:most<(done.length:Int)
        · have hE:Hid (zpt xs most=4):=by show _=_;rw[HE.out,←hfin.out,if_pos hgt]
          have hV:Hid (zpn xs most=[]):=by show _=_;rw[HV.out,←hfin.out,if_pos hgt]
          go_wp2
          go_ret2
          exact⟨.slice none 0 0,by rw[hE.out];rfl,by rw[hV.out];exact OwnInts.nil _ _,hBr⟩
        · have hE:Hid (zpt xs most=0):=by show _=_;rw[HE.out,←hfin.out,if_neg hgt]
          have hV:Hid (zpn xs most=done):=by show _=_;rw[HV.out,←hfin.out,if_neg hgt]
          go_wp2
          go_ret2
          exact⟨.slice q done.length c,by rw[hE.out];rfl,by rw[hV.out];exact Hol.out.mono (by omega),hBr⟩
theorem zvC (w:World) (v:Value) (xs:List Int) (x:Int) (k:Nat) (hv:IsInts w w.heap.size v xs) (hlen:xs.length≤281474976710656) (hk:xs[k]?=some x) (hn:∀ j,j<k→xs[j]?.getD 0≠x) :
    Calls Tryz.prog 85 #[v,.int .i64 x] w fun e w'=>e=.returned (.int .i64 (k:Nat))∧w=w':=by
  obtain⟨A,ca,rfl,hc1,hc2⟩:=hv.shape
  have hkl:k<xs.length:=by
    rcases Nat.lt_or_ge k xs.length with h | h
    · exact h
    · rw[List.getElem?_eq_none h] at hk;cases hk
  obtain⟨N,hN⟩:∃ N,xs.length=N:=⟨_,rfl⟩;rw[hN] at hv hc1 hkl hlen ⊢;have HN:=Lib.hid hN;have Hv:=Lib.hid hv;have Hk:=Lib.hid hk;have Hn:=Lib.hid hn;clear hv hk hn hN
  go_enter Tryz.func85,Tryz.ntmps85
  go_wp2
  go_loop [8] (fun iv=>∃ i:Nat,i≤k∧iv=.int .i64 i) (fun iv=>N-(intOf iv).toNat)
  case atStart=>exact⟨0,Nat.zero_le _,rfl⟩
  case round =>
    obtain⟨i,hi,rfl⟩:=hrel;obtain⟨g,o,rfl,hg,hc⟩:=Hv.out.at i (by rw[HN.out];omega)
    by_cases hik:i=k
    · subst hik
      rw[Hk.out,Option.getD_some] at hc
      go_wp2
      go_ret
      exact⟨rfl,rfl⟩
    · have hne:=Hn.out i (by omega)
      obtain⟨y,hy⟩:∃ y,xs[i]?.getD 0=y:=⟨_,rfl⟩;rw[hy] at hc hne;have ht:(x == y)=false:=by rw[beq_eq_false_iff_ne];exact fun e=>hne e.symm
      clear hy hne
      go_wp2
      go_round
      case rel=>exact⟨i+1,by omega,by go_num⟩
      case measure=>simp[intOf];omega
def zv6 (t n:Int):Bool:=decide (n<0) || decide (t≤n)
theorem zvs (n t:Int) (b:Nat) (W:World) (hc:W.cell? ⟨b,0,none⟩=some (.int .i64 t)):Calls Tryz.prog 83 #[.int .i64 n,.pointer (some ⟨b,0,none⟩)] W fun e w'=>e=.returned (.bool (zv6 t n))∧W=w':=by
  unfold zv6;rcases h1:decide (n<0) with _ | _ <;> rcases h2:decide (t≤n) with _ | _ <;>
  · go_enter Tryz.func83,Tryz.ntmps83
    go_wp2
    go_ret
    exact⟨rfl,rfl⟩
theorem ztY:Enters Tryz.prog 83:=enters_of Tryz.func83 (by kernel_rfl) rfl
theorem zvJ {w:World} {b:Nat} {p:List Nat} {t:Nat} (h:zhc w b p t) (hp:p.length=6):IsInts w w.heap.size (.slice (some ⟨b,0,none⟩) 6 6) (ints p):=by
  refine⟨by rw[zak,Nat.mul_one],_,6,by rw[zad,hp],by rw[zad,hp];omega,by unfold maxLen;omega,fun _=>⟨b,0,rfl,zab h,fun i u hu=>?_⟩⟩
  rw[getElem?_intCells] at hu
  have hi:i<p.length:=by
    rcases Nat.lt_or_ge i p.length with h | h
    · exact h
    · rw[List.getElem?_eq_none (by rw[zad];exact h)] at hu;cases hu
  rw[Nat.zero_add,zaa h,ze2 p t i hp (by omega),←hu]
  simp[ints,List.getElem?_eq_getElem hi]
structure PutSt (w wr:World) (b:Nat) (p:List Nat) (t:Nat) (v:Value) (ls:List (List Bool)):Prop where
  bel:Below w.heap.size w wr
  hb:w.heap.size+1+1≤b
  size:b+1≤wr.heap.size
  out:wr.heap[w.heap.size+1]?=some (.cells #[.string ⟨#[]⟩,.int .i64 0] 50 (0,0))
  row:zhc wr b p t
  own:wr.ownsRow (b+1) 50 2 v ls.length (zam (ls.map zaC))
section
variable {w wr w' w2:World} {b:Nat} {p q:List Nat} {t:Nat} {v v':Value} {ls:List (List Bool)}
theorem PutSt.step (h:PutSt w wr b p t v ls) (hB:Below wr.heap.size wr w'):PutSt w w' b p t v ls :=
  have hs:=h.size;have h2:=h.hb
  ⟨h.bel.trans (hB.mono h.bel.size),h.hb,by have:=hB.size;omega,(hB.block _ (by omega)).trans h.out,(hB.block _ (by omega)).trans h.row,zag h.own hB⟩
theorem PutSt.only (h:PutSt w wr b p t v ls) (hO:Only b wr w') (hR:zhc w' b q t):PutSt w w' b q t v ls :=
  have hs:=h.size;have h2:=h.hb
  ⟨h.bel.trans (hO.below (by omega) (by omega)),h.hb,by have:=hO.size;omega,(hO.block _ (by omega) (by omega)).trans h.out,hR,zfm h.own hO (by omega)⟩
theorem zvn:(Tryz.prog.info? 50).map (fun i=>(i.zero,i.size,i.bytes))=some (some (.agg #[.string ⟨#[]⟩,.int .i64 0]),2,24):=by kernel_rfl
theorem PutSt.appended {l:List Bool} {o:Obj} (h:PutSt w wr b p t v ls) (hg:(wr.alloc o).grownBy w2 v.ownBlock) (ho:w2.ownsRow (b+1) 50 2 v' (ls.length+1) (zam (ls.map zaC)++[.string (txt l),.int .i64 (l.length:Nat)])):PutSt w w2 b p t v' (ls++[l]):=by
  have hs:=h.size;have h2:=h.hb;have hne:∀ k,k<b+1→some k≠v.ownBlock:=fun k hk e=>by have:=zaF h.own e.symm;omega
  refine⟨(h.bel.alloc (by omega) o).grown hg (by simp;omega) (fun k hk=>by have:=zaF h.own hk;omega),h2,by have:=hg.size;simp at this;omega,zwf hg (zah o h.out) (hne _ (by omega)),zwf hg (zah o h.row) (hne _ (by omega)),?_⟩
  rw[List.length_append,List.map_append];have e:zam (ls.map zaC++[l].map zaC)=zam (ls.map zaC)++[.string (txt l),.int .i64 (l.length:Nat)]:=by simp[zam,zaC]
  rw[e];exact ho
end
theorem zwv {w:World} {base:Nat} {v:Value} {ls:List (List Bool)} (h:w.ownsRow base 50 2 v ls.length (zam (ls.map zaC))):zeB w w.heap.size v (ls.map zaC):=by
  have:=Rd.own h;unfold zeB;rw[List.length_map];exact this
theorem zwl (t:Nat) (ht:t≤6) (ns:List Nat):∀ p,zuS t p→(∀ n∈ns,n<t)→(zni p ns).length≤6*ns.length:=by
  induction ns with
  | nil=>intro p _ _;simp[zni]
  | cons n ns ih =>
    intro p hp hn;obtain⟨h1,_⟩:=zsk hp ht (hn n (by simp))
    have:=ih _ (znM hp ht h1) fun m hm=>hn m (by simp[hm])
    rw[zni,List.length_append,ztO,List.length_cons];omega
theorem zwx {c:World} {k n sz:Nat} {cs:Array Value} {t:TypeId} (h:c.heap[k]?=some (.cells cs t (0,0))) (hs:cs.size=n*sz) (hn:n≤maxLen):Rd c c.heap.size sz (.slice (some ⟨k,0,none⟩) n n) n cs.toList :=
  ⟨by simpa using hs,_,n,rfl,Nat.le_refl _,hn,fun _=>⟨k,0,rfl,zab h,fun i u hu=>by rw[Nat.zero_add,zaa h,←hu];simp⟩⟩
theorem zwD {t:Nat} {p:List Nat} {n:Nat} (h:zuS t p) (ht:t≤6) (hn:n<t):(ints p)[p.idxOf n]?=some (n:Int)∧∀ j,j<p.idxOf n→(ints p)[j]?.getD 0≠(n:Int):=by
  obtain⟨h1,h2⟩:=zsk h ht hn;have hl:=h.1;have hlt:p.idxOf n<p.length:=by omega
  refine⟨?_,fun j hj=>?_⟩
  · rw[List.getD_eq_getElem?_getD,List.getElem?_eq_getElem hlt,Option.getD_some] at h2
    simp[ints,List.getElem?_eq_getElem hlt,h2]
  · have hj6:j<p.length:=by omega
    obtain⟨h3,h4⟩:=zvY h ht (show j<t by omega)
    intro e;have e2:(ints p)[j]?.getD 0=((p.getD j 0:Nat):Int):=by simp[ints,List.getD_eq_getElem?_getD,List.getElem?_eq_getElem hj6]
    rw[e2] at e;have e3:p.getD j 0=n:=by omega
    rw[e3] at h4;omega
theorem zwp (w:World) (v:Value) (ns:List Nat) (t:Nat) (hv:IsInts w w.heap.size v (ints ns)) (hl:ns.length≤1048576) (ht:2≤t) (ht6:t≤6) (hn:∀ n∈ns,n<t) :
    Calls Tryz.prog 27 #[v,.int .i64 (t:Nat)] w fun e w'=>e=.returned (.tuple #[.agg #[.string (txt (zni (List.range 6) ns)),.int .i64 ((zni (List.range 6) ns).length:Nat)],.int .i64 0])∧Below w.heap.size w w':=by
  obtain⟨i0,hi0,hz0,hz1,hz2⟩:=info_parts zvn;have hmf:=hmf;obtain⟨A,ca,rfl,hc1,hc2⟩:=hv.shape
  have CF:Hid (∀ W,Calls Tryz.prog 81 #[.int .i64 (t:Nat)] W fun e w'=>e=.returned (.bool true)∧W=w'):=fun W=>by
    have:=zts (t:Nat) W;rw[show (decide ((2:Int)≤(t:Nat)) && decide ((t:Int)≤6))=true by simp;omega] at this
    exact this
  obtain⟨W1,hW1⟩:∃ W1,((w.alloc (.cells #[.int .i64 (t:Nat)] 3)).alloc (.cells #[.string ⟨#[]⟩,.int .i64 0] 50))=W1:=⟨_,rfl⟩;have hB1:Below w.heap.size w W1:=by rw[←hW1];exact ((Below.refl _ _).alloc (Nat.le_refl _) _).alloc (by simp) _
  have hz1':W1.heap.size=w.heap.size+1+1:=by rw[←hW1];simp
  have ht0:W1.heap[w.heap.size]?=some (.cells #[.int .i64 (t:Nat)] 3 (0,0)):=by rw[←hW1];exact zah _ (zae _ _ _ rfl)
  have ho0:W1.heap[w.heap.size+1]?=some (.cells #[.string ⟨#[]⟩,.int .i64 0] 50 (0,0)):=by rw[←hW1];exact zae _ _ _ (by simp)
  have kt:W1.cell? ⟨w.heap.size,0,none⟩=some (.int .i64 (t:Nat)):=zaa ht0 0
  have CC:Hid (Calls Tryz.prog 82 #[.slice A ns.length ca,.func (.func 83) #[] #[.pointer (some ⟨w.heap.size,0,none⟩)]] W1 fun e w'=>e=.returned (.bool false)∧Below W1.heap.size W1 w'):=by
    have h:=zaO W1 _ (ints ns) (zv6 (t:Nat)) 83 #[.pointer (some ⟨w.heap.size,0,none⟩)] ztY ((hv.below hB1 (Nat.le_refl _)).mono hB1.size) (by rw[zad];omega) (fun x _ W' hB=>zvs x t w.heap.size W' ((hB.cell (p:=⟨w.heap.size,0,none⟩) (by simp;omega)).trans kt))
    rw[zad] at h
    have hf:(ints ns).any (zv6 (t:Nat))=false:=by
      rw[List.any_eq_false];intro x hx;simp only[ints,List.mem_map] at hx;obtain⟨a,ha,rfl⟩:=hx;have:=hn a ha;simp[zv6];omega
    rw[hf] at h;exact h
  obtain⟨D,hD⟩:∃ D,zni (List.range 6) ns=D:=⟨_,rfl⟩;have hDl:D.length≤6*ns.length:=by rw[←hD];exact zwl t ht6 ns _ (zfK t ht6) hn
  rw[hD];obtain⟨N,hN⟩:∃ N,ns.length=N:=⟨_,rfl⟩;rw[zad] at hc1 ⊢;rw[hN] at hl CC hc1 hDl ⊢;have HN:=Lib.hid hN;have HD:=Lib.hid hD;have Hv:=Lib.hid hv;have Hn:=Lib.hid hn;have HW1:=Lib.hid hW1;have HB1:=Lib.hid hB1;have HO0:=Lib.hid ho0;clear hN hD hv hn hW1 hB1 ho0
  go_enter Tryz.func27,Tryz.ntmps27
  go_wp2_with fail
  refine (CF.out _).mono ?_;rintro e w1 ⟨rfl,rfl⟩
  go_wp2_with fail
  rw[HW1.out];refine CC.out.mono ?_;rintro e w2 ⟨rfl,hB2⟩;have kt2:w2.cell? ⟨w.heap.size,0,none⟩=some (.int .i64 (t:Nat)):=(hB2.cell (p:=⟨w.heap.size,0,none⟩) (by simp;omega)).trans kt
  have ho2:w2.heap[w.heap.size+1]?=_:=(hB2.block (w.heap.size+1) (by omega)).trans HO0.out
  have hBw2:Below w.heap.size w w2:=HB1.out.trans (hB2.mono HB1.out.size);have hz2':w.heap.size+1+1≤w2.heap.size:=by have:=hB2.size;omega
  have HO2:=Lib.hid ho2;have HBw2:=Lib.hid hBw2;clear hB2 ho2 hBw2 kt HO0 HB1 CC CF ht0 HW1
  go_wp2_with fail
  refine (zus w2 t ht6).mono ?_;rintro e w3 ⟨rfl,hw3⟩
  have S3:PutSt w w3 w2.heap.size (List.range 6) t (.slice none 0 0) []:=by
    rw[hw3];exact⟨HBw2.out.alloc (by omega) _,hz2',by simp,zah _ HO2.out,zae _ _ _ rfl,World.ownsRow_nil _ _ _ _⟩
  have HS3:=Lib.hid S3;clear S3 hw3 HO2 kt2
  go_wp2_with fail
  go_loopw [7,25] (fun lv iv wr=>∃ (j:Nat) (p:List Nat) (ls:List (List Bool)),j≤N∧iv=.int .i64 (j:Nat)∧ls.length=j∧zuS t p∧ls.flatten++zni p (ns.drop j)=D∧PutSt w wr w2.heap.size p t lv ls) (fun _ iv _=>N+1-(intOf iv).toNat)
  case atStart=>exact⟨0,List.range 6,[],by omega,rfl,rfl,zfK t ht6,by rw[List.drop_zero];exact HD.out,HS3.out⟩
  case round =>
    obtain⟨j,p,ls,hj,rfl,hll,htp,hfl,hS⟩:=hrel;have HS:=Lib.hid hS;have HLL:=Lib.hid hll;have HT:=Lib.hid htp;have HFL:=Lib.hid hfl;have hzr:=hS.size;clear hS hll htp hfl HS3
    by_cases hlt:j<N
    · obtain⟨n,hnj⟩:∃ n,ns[j]?=some n:=⟨_,List.getElem?_eq_getElem (by rw[HN.out];exact hlt)⟩
      obtain⟨g,o,rfl,hg,hx⟩:=Hv.out.at j (by rw[zad,HN.out];exact hlt)
      have hxn:(ints ns)[j]?.getD 0=(n:Int):=by simp[ints,hnj]
      rw[hxn] at hx;have hx':wr.cell? ⟨g,o+j,none⟩=some (.int .i64 (n:Int)):=(HS.out.bel.cell (p:=⟨g,o+j,none⟩) hg).trans hx;have hnt:=Hn.out n (List.mem_of_getElem? hnj);obtain⟨hi1,hi2⟩:=zwD HT.out ht6 hnt;have hkt:=(zsk HT.out ht6 hnt).1
      have hdr:ns.drop j=n::ns.drop (j+1):=by
        obtain⟨hlt',e⟩:=List.getElem?_eq_some_iff.1 hnj;rw[List.drop_eq_getElem_cons hlt',e]
      have hfl:=HFL.out;rw[hdr,zni] at hfl;obtain⟨k,hk⟩:∃ k,p.idxOf n=k:=⟨_,rfl⟩;rw[hk] at hi1 hi2 hkt hfl;have CI:=Lib.hid (zvC wr (.slice (some ⟨w2.heap.size,0,none⟩) 6 6) (ints p) (n:Int) k (zvJ HS.out.row HT.out.1) (by rw[zad,HT.out.1];omega) hi1 hi2)
      have CP:Hid (∀ W (V:Int),V=((2 ^ (k+1)-2:Nat):Int)→Calls Tryz.prog 19 #[.agg #[.string ⟨#[]⟩,.int .i64 0],.int .u64 V,.int .i64 ((k:Int)+1)] W fun e w'=>e=.returned (.tuple #[.agg #[.string (txt (zjb k)),.int .i64 ((zjb k).length:Nat)],.int .i64 0])∧Below W.heap.size W w'):=fun W V hV=>by
        rw[hV,show ((k:Int)+1)=((k+1:Nat):Int) by omega]
        refine zg5 W (2 ^ (k+1)-2) (k+1) (zjb k) (zvd k (by omega)) ?_ (by omega)
        have:2 ^ (k+1)≤2 ^ 6:=Nat.pow_le_pow_right (by omega) (by omega)
        omega
      have hwr:∀ V:Int,True:=fun _=>trivial;have HFL2:=Lib.hid hfl;have hk6:k=0∨k=1∨k=2∨k=3∨k=4∨k=5:=by omega
      have Hk6:=Lib.hid hk6;have hul:=ztO k;have Hul:=Lib.hid hul;obtain⟨ul,hule⟩:∃ u,(zjb k).length=u:=⟨_,rfl⟩;clear hi1 hi2 hdr hfl hx hnj hk hwr hul hxn hk6
      go_wp2_with fail
      refine CI.out.mono ?_;rintro e w4 ⟨rfl,rfl⟩
      go_wp2_with fail
      refine (zrj wr w2.heap.size p t k HT.out.1 (by omega) HS.out.row).mono ?_
      rintro e w4 ⟨rfl,hO4,hR4⟩;have HS4:=Lib.hid (HS.out.only hO4 hR4);clear hO4 hR4 HS CI
      go_wp2_with fail
      refine (CP.out _ _ (by rcases Hk6.out with rfl | rfl | rfl | rfl | rfl | rfl <;> decide)).mono ?_
      rintro e w5 ⟨rfl,hB5⟩;have HS5:=Lib.hid (HS4.out.step hB5);have hls5:ls.length≤1048576:=by rw[HLL.out];omega
      have hz5:=HS5.out.size;have hoq:=HS5.out.own;clear hB5 HS4 CP;rw[hule]
      go_wp2_with
        (at_builtin
         refine zb6 rfl _ _ 106 rfl (w2.heap.size+1) 50 i0 (.agg #[.string ⟨#[]⟩,.int .i64 0]) 2 24 Tryz.underlying106 hi0 hz0 hz1 hz2 rfl (by decide) _ ls.length (zam (ls.map zaC)) rfl ((HS5.out.own.alloc _).alloc _) _ 1 _ [.string (txt (zjb k)),.int .i64 ((ul:Nat):Int)] rfl (zwx (zww w5 _ (.cells #[.string (txt (zjb k)),.int .i64 ((ul:Nat):Int)] 50)) rfl (by simp[maxLen])) (by simp[Value.oneCell']) (by unfold maxLen;omega) (by omega) (by simp;omega) ?_
         intro v' w6 hown hg hat1;have HS6:=Lib.hid ((HS5.out.step ((Below.refl _ w5).alloc (Nat.le_refl _) (.cells #[.string (txt (zjb k)),.int .i64 ((ul:Nat):Int)] 50))).appended (l:=zjb k) hg (by rw[hule];exact hown))
         clear hown hg hat1)
      go_roundw
      case rel=>exact⟨j+1,mtf p k,ls++[zjb k],by omega,by go_num,by rw[List.length_append,HLL.out];rfl,znM HT.out ht6 hkt,by rw[List.flatten_append,List.append_assoc];simpa using HFL2.out,HS6.out⟩
      case measure=>simp[intOf];omega
    · obtain rfl:j=N:=by omega
      have hfl:=HFL.out;rw[List.drop_of_length_le (by rw[HN.out];exact Nat.le_refl _),zni,List.append_nil] at hfl
      have hlen:D.length+8*ls.length<1099511627776:=by have:=HLL.out;omega
      have CC:=Lib.hid (zkE wr _ ls D hfl (zwv HS.out.own) hlen);have HSs:=HS.out.size;have HSb:=HS.out.hb;clear hfl hlen
      go_wp2_with fail
      refine CC.out.mono ?_;rintro e w4 ⟨rfl,hB4⟩;have HS4:=Lib.hid (HS.out.step hB4);have k0:w4.cell? ⟨w.heap.size+1,0,none⟩=some (.string ⟨#[]⟩):=zaa HS4.out.out 0;have k1:w4.cell? ⟨w.heap.size+1,1,none⟩=some (.int .i64 0):=zaa HS4.out.out 1;have f0:=zac HS4.out.out;have hbel:Below w.heap.size w ((w4.setCell ⟨w.heap.size+1,0,none⟩ (.string (txt D))).setCell ⟨w.heap.size+1,1,none⟩ (.int .i64 (D.length:Nat))):=(HS4.out.bel.setCell (p:=⟨w.heap.size+1,0,none⟩) (by simp) _).setCell (p:=⟨w.heap.size+1,1,none⟩) (by simp) _
      clear hB4 HS
      go_wp2_with fail
      refine bodyPost_ret (v:=.tuple #[.agg #[.string (txt D),.int .i64 (D.length:Nat)],.int .i64 0]) ?_ rfl ⟨rfl,hbel⟩;simp[results,Tryz.results27,go_sem,k0,k1]
end Go.Proofs.YtoejfkeofbdalaaGreatDoor
