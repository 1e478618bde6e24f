set_option linter.all false
theorem J{p:Prop}(h:p:=by(omega)):p:=h
theorem aV{p:Prop}(h:p:=by(simp)):p:=h
theorem bX{p:Prop}(h:p:=by(simp;omega)):p:=h
theorem FU{p:Prop}(h:p:=by(simpa using h)):p:=h
theorem PF{p:Prop}(h:p:=by(rw[he];exact z_)):p:=h
theorem fX{p:Prop}(h:p:=by(decide)):p:=h
theorem bZ{p:Prop}(h:p:=by(assumption)):p:=h
theorem CW{p:Prop}(h:p:=by(cases e)):p:=h
theorem PG{p:Prop}(h:p:=by(rw[hm i hi];exact hl)):p:=h
theorem bE{p:Prop}(h:p:=by(rfl)):p:=h
theorem kx{p:Prop}(h:p:=by(simp[U.lt])):p:=h
theorem II{p:Prop}(h:p:=by(have:=mt h3.1 h5;omega)):p:=h
theorem IJ{p:Prop}(h:p:=by(rw[List.length_take];omega)):p:=h
theorem Er{p:Prop}(h:p:=by(constructor<;>(try dsimp only)<;>first|assumption|omega|with_reducible exact cF hW _|with_reducible exact dR lk _|with_reducible exact bh _ _|with_reducible exact ck _ _ _ _|(simp;done)|(simp;omega)|(intro hh;omega)|(intro hh;contradiction)|(intro hh;simp[ho]at hh;done)|(split<;>omega)|(intro hh;have gU:=gE hh;omega)|(intro hh;split at hh<;>omega)|(intro hh;simp at hh⊢;omega)|(intro hh;have gU:=gE hh;split<;>omega))):p:=h
theorem mU{p:Prop}(h:p:=by(intro y hy;rw[ak (by simp;omega),ak hy])):p:=h
theorem zB{p:Prop}(h:p:=by(first|exact cKO|fail)):p:=h
theorem bc{p:Prop}(h:p:=by(simp only[au,az];omega)):p:=h
theorem lc{p:Prop}(h:p:=by(intro y hy ho;obtain⟨z1,z2,z3,z4,z5,z6,z7,z8⟩:=ho;refine⟨?_,?_,?_,?_,?_,?_,?_,?_⟩<;>first|assumption|(simp only[NE];omega))):p:=h
theorem IK{p:Prop}(h:p:=by(rcases dG with h|h;(rw[h];exact NE.ne y3);omega)):p:=h
theorem jf{p:Prop}(h:p:=by(refine⟨?_,?_,?_,?_,?_,?_,?_,?_,?_,?_,?_,?_,?_,?_,?_,?_,?_,?_,?_,?_,?_,?_,?_,?_,?_,?_,?_,?_⟩<;>first|assumption|exact NE.sw (by assumption)|(simp only[NE];omega))):p:=h
theorem bN{p:Prop}(h:p:=by(first|assumption|exact NE.sw (by assumption))):p:=h
theorem IL{p:Prop}(h:p:=by(first|exact NE.sym (by assumption)|exact NE.ne (by assumption))):p:=h
theorem IM{p:Prop}(h:p:=by(rw[hC];exact gq)):p:=h
theorem aI{p:Prop}(h:p:=by((first|exact bn|fail))):p:=h
theorem IN{p:Prop}(h:p:=by(intro y hy ho;rw[ai (by omega)];exact jn y hy ho)):p:=h
theorem bj{p:Prop}(h:p:=by(simp only[az];omega)):p:=h
theorem aD{p:Prop}(h:p:=by(simp only[NE];omega)):p:=h
theorem IP{p:Prop}(h:p:=by(simp[aF,cE])):p:=h
theorem IQ{p:Prop}(h:p:=by(intro y hy ho;rw[ai (by omega),ai (by omega),eF y (by omega) ho.p];exact jn y hy ho)):p:=h
theorem bG{p:Prop}(h:p:=by(simp only[au];omega)):p:=h
theorem IR{p:Prop}(h:p:=by(rw[Hy];omega)):p:=h
theorem mV{p:Prop}(h:p:=by(simp only[az,au];omega)):p:=h
theorem fc{p:Prop}(h:p:=by(intro y hy;simp(disch:=first|omega|(simp only[au,az];omega)) only[ak])):p:=h
theorem ky{p:Prop}(h:p:=by(simp[aF])):p:=h
theorem iF{p:Prop}(h:p:=by(simp only[au])):p:=h
theorem il{p:Prop}(h:p:=by(simp only[cn];omega)):p:=h
theorem Es{p:Prop}(h:p:=by(simp only[NE,cn];omega)):p:=h
theorem IS{p:Prop}(h:p:=by(rw[aF])):p:=h
theorem OJ{p:Prop}(h:p:=by(unfold gO;omega)):p:=h
theorem IT{p:Prop}(h:p:=by(simp[bP];omega)):p:=h
theorem fp{p:Prop}(h:p:=by(first|exact cKP|fail)):p:=h
theorem zC{p:Prop}(h:p:=by(simp only[aR,au])):p:=h
theorem vB{p:Prop}(h:p:=by(simp only[au,az,aR];omega)):p:=h
theorem sT{p:Prop}(h:p:=by(rw[od];exact r)):p:=h
theorem sU{p:Prop}(h:p:=by(rw[mH])):p:=h
theorem jC{p:Prop}(h:p:=by(rw[od])):p:=h
theorem py{p:Prop}(h:p:=by(dsimp only;omega)):p:=h
theorem sV{p:Prop}(h:p:=by(intro y y1 y2;(first|exact bn|fail))):p:=h
theorem IU{p:Prop}(h:p:=by(simp only[au,aR,az];omega)):p:=h
theorem IV{p:Prop}(h:p:=by(unfold aP;omega)):p:=h
theorem IW{p:Prop}(h:p:=by(decide+kernel)):p:=h
theorem aq{p:Prop}(h:p:=by(first|rfl|simp[fa, *])):p:=h
theorem zD{p:Prop}(h:p:=by(first|exact fin _ _ _ _ _ _ _ (p+1) (by omega) (by omega) (by simp only[au,az,aR];omega) (by(first|exact bn|fail)) (by intro y y1 y2;(first|exact bn|fail))|exact fin _ _ _ _ _ _ _ (p+2) (by omega) (by omega) (by simp only[au,az,aR];omega) (by(first|exact bn|fail)) (by intro y y1 y2;(first|exact bn|fail))|exact fin _ _ _ _ _ _ _ (p+3) (by omega) (by omega) (by simp only[au,az,aR];omega) (by(first|exact bn|fail)) (by intro y y1 y2;(first|exact bn|fail))|exact fin _ _ _ _ _ _ _ (p+4) (by omega) (by omega) (by simp only[au,az,aR];omega) (by(first|exact bn|fail)) (by intro y y1 y2;(first|exact bn|fail))|exact fin _ _ _ _ _ _ _ (p) (by omega) (by omega) (by simp only[au,az,aR];omega) (by(first|exact bn|fail)) (by intro y y1 y2;(first|exact bn|fail)))):p:=h
theorem oc{p:Prop}(h:p:=by(first|exact fin _ _ _ _ _ _ _ (p+2) (by omega) (by omega) (by simp only[au,az,aR];omega) (by(first|exact bn|fail)) (by intro y y1 y2;(first|exact bn|fail))|exact fin _ _ _ _ _ _ _ (p+3) (by omega) (by omega) (by simp only[au,az,aR];omega) (by(first|exact bn|fail)) (by intro y y1 y2;(first|exact bn|fail))|exact fin _ _ _ _ _ _ _ (p+4) (by omega) (by omega) (by simp only[au,az,aR];omega) (by(first|exact bn|fail)) (by intro y y1 y2;(first|exact bn|fail))|exact fin _ _ _ _ _ _ _ (p+1) (by omega) (by omega) (by simp only[au,az,aR];omega) (by(first|exact bn|fail)) (by intro y y1 y2;(first|exact bn|fail))|exact fin _ _ _ _ _ _ _ (p) (by omega) (by omega) (by simp only[au,az,aR];omega) (by(first|exact bn|fail)) (by intro y y1 y2;(first|exact bn|fail)))):p:=h
theorem vC{p:Prop}(h:p:=by(first|exact fin _ _ _ _ _ _ _ (p+2) (by omega) (by omega) (by simp only[au,az,aR];omega) (by(first|exact bn|fail)) (by intro y y1 y2;(first|exact bn|fail))|exact fin _ _ _ _ _ _ _ (p+3) (by omega) (by omega) (by simp only[au,az,aR];omega) (by(first|exact bn|fail)) (by intro y y1 y2;(first|exact bn|fail))|exact fin _ _ _ _ _ _ _ (p+4) (by omega) (by omega) (by simp only[au,az,aR];omega) (by(first|exact bn|fail)) (by intro y y1 y2;(first|exact bn|fail))|exact fin _ _ _ _ _ _ _ (p+1) (by omega) (by omega) (by simp only[au,az,aR];omega) (by(first|exact bn|fail)) (by intro y y1 y2;(first|exact bn|fail))|exact fin _ _ _ _ _ _ _ (p) (by omega) (by omega) (by simp only[au,az,aR];omega) (by(first|exact bn|fail)) (by intro y y1 y2;(first|exact bn|fail))|exact fin _ _ _ _ _ _ _ (p+5) (by omega) (by omega) (by simp only[au,az,aR];omega) (by(first|exact bn|fail)) (by intro y y1 y2;(first|exact bn|fail))|exact fin _ _ _ _ _ _ _ (p+6) (by omega) (by omega) (by simp only[au,az,aR];omega) (by(first|exact bn|fail)) (by intro y y1 y2;(first|exact bn|fail))|exact fin _ _ _ _ _ _ _ (p+9) (by omega) (by omega) (by simp only[au,az,aR];omega) (by(first|exact bn|fail)) (by intro y y1 y2;(first|exact bn|fail)))):p:=h
