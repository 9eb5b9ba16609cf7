/- Parts of the proof. -/
import Derived.Test.YtabmahknlebhpaaGreatVmQC
import Derived.Test.YtabmahknlebhpaaGreatVmQB2
set_option linter.unusedVariables false
set_option linter.unusedSectionVars false
namespace Go.Proofs.YtabmahknlebhpaaGreat
noncomputable section
section
open Go.RowKit
set_option maxRecDepth 100000
set_option maxHeartbeats 0
def Q_N(g:(i:Q_C)→Option (Q_T i)):(i:Q_C)→Option (Q_T i)
 |.c0 a b=>Qb0 g a b
 |.c1 a b c=>Qb1 g a b c
 |.c2 a b c d=>Qb2 g a b c d
 |.c3 a b c d=>Qb3 g a b c d
 |.c4 a=>Qb4 g a
 |.c5 a b=>Qb5 g a b
 |.c6 a b c d e=>Qb6 g a b c d e
 |.c7 a b=>Qb7 g a b
 |.c8 a=>Qb8 g a
 |.c9 a=>Qb9 g a
 |.c10 a=>tX g a
 |.c11=>xR g
 |.c12 a b=>Vm g a b
 |.c13 a b=>bK g a b
 |.c14 a=>Rq g a
 |.c15 a=>xC g a
 |.c16 a b=>Tx g a b
 |.c17=>nP g
 |.c18 a=>qU g a
 |.c19 a=>qI g a
 |.c20 a=>jH g a
 |.c21 a=>mP g a
 |.c22 a b c=>Zg g a b c
 |.c23 a b=>dA g a b
 |.c24 a b=>nH g a b
 |.c25 a b=>vJ g a b
 |.c26 a b c d=>Vp g a b c d
 |.c27 a b=>fB g a b
 |.c28 a b c=>gU g a b c
 |.c29 a b c=>iD g a b c
 |.c30 a b=>iS g a b
 |.c31 a b c=>Sp g a b c
 |.c32 a b c=>cD g a b c
 |.c33 a b c d e f=>Zq g a b c d e f
 |.c34 a b c d e f=>pG g a b c d e f
 |.c35 a b c d=>kN g a b c d
 |.c36 a b c d e f=>dG g a b c d e f
 |.c37 a=>nC g a
 |.c38 a=>vB g a
 |.c39 a=>eM g a
 |.c40=>EY g
 |.c41 a=>fC g a
 |.c42 a b c=>iV g a b c
 |.c43 a b c=>vP g a b c
 |.c44 a b c d=>Ni g a b c d
 |.c45 a=>pD g a
 |.c46 a b c=>uT g a b c
 |.c47 a b c=>kF g a b c
 |.c48 a b=>cF g a b
 |.c49 a b=>uW g a b
 |.c50 a b c=>Xq g a b c
 |.c51 a b=>rZ g a b
 |.c52 a b c=>Xk g a b c
 |.c53=>pL g
 |.c54 a=>fL g a
 |.c55 a b c d e f=>eP g a b c d e f
 |.c56 a b c d e=>gG g a b c d e
 |.c57 a=>gB g a
 |.c58 a=>iO g a
 |.c59 a b=>qO g a b
 |.c60 a b c d e=>cE g a b c d e
 |.c61 a b=>lL g a b
 |.c62 a b=>tL g a b
 |.c63 a b=>cZ g a b
 |.c64 a b=>oK g a b
 |.c65 a b=>hH g a b
 |.c66 a b=>nF g a b
 |.c67 a b=>fW g a b
 |.c68 a=>mV g a
 |.c69 a b c=>Uk g a b c
 |.c70 a b=>sK g a b
 |.c71 a b=>nX g a b
 |.c72 a=>oI g a
 |.c73 a b c d=>lZ g a b c d
 |.c74 a b c d=>lC g a b c d
 |.c75 a b=>lE g a b
 |.c76 a=>sI g a
 |.c77 a b c=>uO g a b c
 |.c78 a b c=>sQ g a b c
 |.c79 a b=>nT g a b
 |.c80 a=>mY g a
 |.c81 a b=>sJ g a b
 |.c82 a b=>dR g a b
 |.c83 a=>pU g a
 |.c84 a=>dD g a
 |.c85 a b=>sL g a b
 |.c86 a b=>uY g a b
 |.c87 a b=>gM g a b
 |.c88 a=>wR g a
 |.c89 a b=>jQ g a b
 |.c90 a=>vE g a
 |.c91 a b=>So g a b
 |.c92 a b c d e=>aX g a b c d e
 |.c93 a b c d e f=>Xx g a b c d e f
 |.c94 a b c d e=>oQ g a b c d e
 |.c95 a b=>gQ g a b
 |.c96 a=>mL g a
 |.c97 a b c=>Zx g a b c
 |.c98 a b c=>Sg g a b c
 |.c99 a b=>fY g a b
 |.c100 a b=>vR g a b
 |.c101 a b c=>sB g a b c
 |.c102 a b c=>tJ g a b c
 |.c103 a=>wU g a
 |.c104 a b c=>tV g a b c
 |.c105 a b c=>rA g a b c
 |.c106 a=>lQ g a
 |.c107 a b c d e=>sX g a b c d e
 |.c108 a b c d e=>tF g a b c d e
 |.c109 a b c d e=>bQ g a b c d e
 |.c110 a b c d e f=>gX g a b c d e f
 |.c111 a=>mK g a
 |.c112 a b=>gH g a b
 |.c113 a b c=>gK g a b c
 |.c114 a b=>sZ g a b
 |.c115 a b=>wW g a b
 |.c116 a b=>vX g a b
 |.c117 a=>cN g a
 |.c118 a b=>eR g a b
 |.c119 a b c d=>Zw g a b c d
 |.c120 a b c=>Wi g a b c
 |.c121 a=>nQ g a
 |.c122 a b=>tH g a b
 |.c123 a b=>oJ g a b
 |.c124 a=>wC g a
 |.c125 a=>fD g a
 |.c126 a=>jL g a
 |.c127 a=>vT g a
 |.c128 a=>wV g a
 |.c129 a b=>dB g a b
 |.c130 a b c d=>bF g a b c d
 |.c131 a=>gO g a
 |.c132 a=>qZ g a
 |.c133 a=>bR g a
 |.c134 a=>kK g a
 |.c135 a=>qT g a
 |.c136=>rT g
 |.c137 a b=>wD g a b
 |.c138 a b c=>Tm g a b c
 |.c139=>pM g
 |.c140 a b=>mJ g a b
 |.c141 a b c d e=>aJ g a b c d e
 |.c142 a b c d=>dU g a b c d
 |.c143 a b c d=>vA g a b c d
 |.c144 a=>tC g a
 |.c145 a b=>Vf g a b
 |.c146=>gV g
 |.c147 a=>yW g a
 |.c148 a b=>kP g a b
 |.c149 a b c=>Sk g a b c
 |.c150=>lN g
 |.c151 a b=>xG g a b
 |.c152 a b c d e=>Ya g a b c d e
 |.c153 a=>hY g a
 |.c154 a b c=>fM g a b c
 |.c155 a b c d=>Vg g a b c d
 |.c156=>kJ g
 |.c157 a=>jY g a
 |.c158 a b c=>Ww g a b c
 |.c159 a=>gC g a
 |.c160 a b c=>Jn g a b c
 |.c161 a b=>iM g a b
 |.c162 a b c d=>Yj g a b c d
 |.c163 a b c=>lS g a b c
 |.c164 a=>xH g a
 |.c165 a b c=>oL g a b c
 |.c166 a b c d=>Tj g a b c d
 |.c167=>cC g
 |.c168 a b c=>sP g a b c
 |.c169 a b c d=>qL g a b c d
 |.c170 a b=>bS g a b
 |.c171 a b c=>sT g a b c
 |.c172 a b c=>uZ g a b c
 |.c173 a b=>kT g a b
 |.c174 a b c=>cV g a b c
 |.c175 a=>jC g a
 |.c176 a b c d=>bD g a b c d
 |.c177 a b c d=>jW g a b c d
 |.c178 a b c d=>eY g a b c d
 |.c179 a b c=>lU g a b c
 |.c180 a b c d e=>dS g a b c d e
 |.c181 a b c d=>Ye g a b c d
 |.c182 a b c d e f h j=>Vv g a b c d e f h j
 |.c183 a=>oC g a
 |.c184 a b c d e f h j=>jE g a b c d e f h j
 |.c185 a b c d e f h j=>iK g a b c d e f h j
 |.c186 a b c d e f h=>qN g a b c d e f h
 |.c187 a b c d e f h j k=>cY g a b c d e f h j k
 |.c188 a b c d e=>sU g a b c d e
 |.c189 a=>pY g a
 |.c190 a b=>Xt g a b
 |.c191=>nW g
 |.c192 a b c=>mU g a b c
 |.c193 a b c=>fU g a b c
 |.c194 a b=>vG g a b
 |.c195 a=>jF g a
 |.c196 a b c d=>Yy g a b c d
 |.c197 a b c d e f h j=>Tg g a b c d e f h j
 |.c198 a b c d e f=>fK g a b c d e f
 |.c199 a=>cO g a
 |.c200 a b c d e f h j=>uA g a b c d e f h j
 |.c201 a b c d e f h j=>nL g a b c d e f h j
 |.c202 a b c d e f h=>dZ g a b c d e f h
 |.c203 a b c d e f=>gE g a b c d e f
 |.c204 a b c d e f h j=>iR g a b c d e f h j
 |.c205 a b c d e=>uC g a b c d e
 |.c206 a b c d e=>sR g a b c d e
 |.c207 a b c d e f h=>pV g a b c d e f h
 |.c208 a b c=>Jv g a b c
 |.c209 a b c=>jR g a b c
 |.c210 a b=>pB g a b
 |.c211 a b c d=>nB g a b c d
 |.c212 a b c d e=>Oe g a b c d e
 |.c213 a b c d e f h j=>Uh g a b c d e f h j
 |.c214 a b c d e f=>nE g a b c d e f
 |.c215 a=>Wh g a
 |.c216 a b c d e f=>kC g a b c d e f
 |.c217 a b c d e=>Lu g a b c d e
 |.c218 a b c d e=>qE g a b c d e
 |.c219 a b c d e=>Tz g a b c d e
 |.c220 a b c d e f h j k=>Si g a b c d e f h j k
 |.c221 a b c d e f h j=>iZ g a b c d e f h j
 |.c222 a b=>qD g a b
 |.c223 a b c d e f h j=>eC g a b c d e f h j
 |.c224 a b c d e f h j=>bY g a b c d e f h j
 |.c225 a b c d=>kA g a b c d
 |.c226 a b c d e f=>Uc g a b c d e f
 |.c227 a b c=>mS g a b c
 |.c228 a b c d e=>Ry g a b c d e
 |.c229 a b=>kS g a b
 |.c230 a b=>oD g a b
 |.c231 a b c d e=>Yw g a b c d e
 |.c232 a b c d=>wN g a b c d
 |.c233 a=>wS g a
 |.c234 a b c=>Jl g a b c
 |.c235 a=>Yl g a
 |.c236 a b=>kQ g a b
 |.c237 a=>lY g a
 |.c238 a=>Wf g a
 |.c239 a b c=>oM g a b c
 |.c240 a b c=>uL g a b c
 |.c241 a b c=>pZ g a b c
 |.c242 a b c=>nI g a b c
 |.c243 a=>gY g a
 |.c244 a b=>fN g a b
 |.c245 a b c=>rO g a b c
 |.c246 a b=>uV g a b
 |.c247 a b c d e=>Vz g a b c d e
 |.c248 a b c d=>nN g a b c d
 |.c249 a b c d e=>Yp g a b c d e
 |.c250 a b c d e=>Wc g a b c d e
 |.c251 a b=>lH g a b
 |.c252 a b=>sO g a b
 |.c253 a b c=>cJ g a b c
 |.c254 a b=>xA g a b
 |.c255 a b c d=>aZ g a b c d
 |.c256 a b=>oN g a b
 |.c257 a b c d=>lK g a b c d
 |.c258 a b=>iW g a b
 |.c259 a b c d e=>pS g a b c d e
 |.c260 a=>qM g a
 |.c261 a b=>eV g a b
 |.c262=>FA g
 |.c263 a b c=>xD g a b c
 |.c264 a b=>rK g a b
 |.c265 a b c=>gJ g a b c
 |.c266 a b c d=>dF g a b c d
 |.c267 a b c d e=>jS g a b c d e
 |.c268 a b c d e=>gI g a b c d e
 |.c269 a b=>Ge g a b
 |.c270 a b c d=>eS g a b c d
 |.c271 a b c d=>aV g a b c d
 |.c272 a b=>cH g a b
 |.c273 a b=>eE g a b
 |.c274 a b=>qA g a b
 |.c275 a b c d=>aF g a b c d
 |.c276 a b=>vC g a b
 |.c277 a=>gS g a
 |.c278 a b c d=>Vb g a b c d
 |.c279 a b=>wG g a b
 |.c280 a=>vV g a
 |.c281 a=>Yv g a
 |.c282 a b c=>Tq g a b c
 |.c283 a b=>lP g a b
 |.c284 a b=>Rx g a b
 |.c285 a=>pT g a
 |.c286 a b c=>Zc g a b c
 |.c287=>cM g
 |.c288 a b c=>dW g a b c
 |.c289 a b=>qW g a b
 |.c290 a b=>wF g a b
 |.c291 a b=>eZ g a b
 |.c292 a=>Qr g a
 |.c293 a b c=>jZ g a b c
 |.c294 a b=>dM g a b
 |.c295 a b c=>qR g a b c
 |.c296 a b=>dY g a b
 |.c297 a b=>jI g a b
 |.c298 a b c=>vY g a b c
 |.c299 a b c=>vK g a b c
 |.c300 a b c d e=>cX g a b c d e
 |.c301 a b c d=>lD g a b c d
 |.c302 a b c d e f=>iH g a b c d e f
 |.c303 a=>wX g a
 |.c304 a=>wP g a
 |.c305 a b=>Yx g a b
 |.c306 a b c=>eD g a b c
 |.c307 a b c=>fS g a b c
 |.c308 a b c d e=>Yq g a b c d e
 |.c309 a b c d e=>Yg g a b c d e
 |.c310 a b c d e f=>Vu g a b c d e f
 |.c311 a b=>eX g a b
 |.c312 a b c d=>Wb g a b c d
 |.c313 a b c=>pP g a b c
 |.c314 a b=>Mi g a b
 |.c315 a=>Sr g a
 |.c316 a=>wE g a
 |.c317 a b=>Xb g a b
 |.c318 a b c d e=>Sn g a b c d e
 |.c319 a=>bZ g a
 |.c320 a b=>oP g a b
 |.c321 a b=>Uf g a b
 |.c322=>lJ g
 |.c323 a b=>mA g a b
 |.c324 a b=>fO g a b
 |.c325 a b c d=>Rn g a b c d
 |.c326 a b=>nR g a b
 |.c327 a b c d=>cA g a b c d
 |.c328 a=>Sx g a
 |.c329 a b=>vO g a b
 |.c330 a b=>uB g a b
 |.c331 a b c d=>Ve g a b c d
 |.c332 a b c=>dI g a b c
 |.c333 a b=>wQ g a b
 |.c334 a b c d e f h=>Sm g a b c d e f h
 |.c335 a b c d=>lX g a b c d
 |.c336 a b c=>sS g a b c
 |.c337 a b c d e=>iJ g a b c d e
 |.c338 a b c d=>uM g a b c d
 |.c339 a b c=>cU g a b c
 |.c340 a b c d e=>Zo g a b c d e
 |.c341 a b c=>tW g a b c
 |.c342 a b=>cW g a b
 |.c343 a b=>Sf g a b
 |.c344 a b=>pK g a b
 |.c345 a b c=>Yd g a b c
 |.c346 a=>qK g a
 |.c347 a b c=>Sd g a b c
 |.c348 a b c d e f=>iY g a b c d e f
 |.c349 a=>mC g a
 |.c350 a b c d=>lV g a b c d
 |.l17_awake=>NX g
 |.l17_source a=>xE g a
 |.l17_VerifyPrograms a=>uN g a
 |.c354 a b=>Uo g a b
 |.c355 a b c d=>Xv g a b c d
 |.c356=>kH g
 |.c357 a b=>sD g a b
 |.c358 a=>Ow g a
 |.c359 a b=>Xa g a b
 |.c360=>rF g
 |.c361 a b c=>Nu g a b c
 |.c362 a b c=>Mc g a b c
 |.c363 a b=>aP g a b
 |.c364 a=>Rp g a
 |.c365 a=>Xu g a
 |.c366 a b c=>Wk g a b c
 |.c367 a b=>lI g a b
 |.c368 a b c d e f=>Om g a b c d e f
 |.c369 a b c d e f=>Og g a b c d e f
 |.c370 a b c d e f=>Tu g a b c d e f
 |.c371 a b c d e=>Px g a b c d e
 |.c372 a b=>Xo g a b
 |.c373 a b c d=>Yb g a b c d
 |.c374 a b c=>Un g a b c
 |.c375 a b c=>Dn g a b c
 |.c376 a b=>Ud g a b
 |.c377 a=>fE g a
 |.c378 a b c=>Su g a b c
 |.c379 a b=>oO g a b
 |.c380 a b c d=>Ti g a b c d
 |.c381 a b c=>Yc g a b c
 |.c382 a b c d=>Xl g a b c d
 |.c383 a b c=>Zd g a b c
 |.c384 a b c=>Ii g a b c
 |.c385 a b c=>Ia g a b c
 |.c386 a=>Qh g a
 |.c387 a b=>Pi g a b
 |.c388 a b=>Ju g a b
 |.c389=>Lo g
 |.c390 a=>Sa g a
 |.c391 a b=>Ke g a b
 |.c392 a b c d e=>Ja g a b c d e
 |.c393 a=>Xy g a
 |.c394 a b=>Ue g a b
 |.c395 a b=>Kl g a b
 |.c396=>Sj g
theorem b4G(g:Gt tab Q0)(i:Q_C):fG (Q_B g) i=Q_N (fG g) i:=by cases i<;>as_aux_lemma=>kernel_rfl
theorem i4(i:Q_C):d5 i=Q_N d5 i:=(b2k i).trans (b4G _ i)
theorem b5v(i:Q_C):G3 (fun g=>Q_N g i):=by
 cases i
 all_goals dsimp only[Q_N,Qb0,Qb1,Qb2,Qb3,Qb4,Qb5,Qb6,Qb7,Qb8,Qb9,tX,xR,Vm,bK,Rq,xC,Tx,nP,qU,qI,jH,mP,Zg,dA,nH,vJ,Vp,fB,gU,iD,iS,Sp,cD,Zq,pG,kN,dG,nC,vB,eM,EY,fC,iV,vP,Ni,pD,uT,kF,cF,uW,Xq,rZ,Xk,pL,fL,eP,gG,gB,iO,qO,cE,lL,tL,cZ,oK,hH,nF,fW,mV,Uk,sK,nX,oI,lZ,lC,lE,sI,uO,sQ,nT,mY,sJ,dR,pU,dD,sL,uY,gM,wR,jQ,vE,So,aX,Xx,oQ,gQ,mL,Zx,Sg,fY,vR,sB,tJ,wU,tV,rA,lQ,sX,tF,bQ,gX,mK,gH,gK,sZ,wW,vX,cN,eR,Zw,Wi,nQ,tH,oJ,wC,fD,jL,vT,wV,dB,bF,gO,qZ,bR,kK,qT,rT,wD,Tm,pM,mJ,aJ,dU,vA,tC,Vf,gV,yW,kP,Sk,lN,xG,Ya,hY,fM,Vg,kJ,jY,Ww,gC,Jn,iM,Yj,lS,xH,oL,Tj,cC,sP,qL,bS,sT,uZ,kT,cV,jC,bD,jW,eY,lU,dS,Ye,Vv,oC,jE,iK,qN,cY,sU,pY,Xt,nW,mU,fU,vG,jF,Yy,Tg,fK,cO,uA,nL,dZ,gE,iR,uC,sR,pV,Jv,jR,pB,nB,Oe,Uh,nE,Wh,kC,Lu,qE,Tz,Si,iZ,qD,eC,bY,kA,Uc,mS,Ry,kS,oD,Yw,wN,wS,Jl,Yl,kQ,lY,Wf,oM,uL,pZ,nI,gY,fN,rO,uV,Vz,nN,Yp,Wc,lH,sO,cJ,xA,aZ,oN,lK,iW,pS,qM,eV,FA,xD,rK,gJ,dF,jS,gI,Ge,eS,aV,cH,eE,qA,aF,vC,gS,Vb,wG,vV,Yv,Tq,lP,Rx,pT,Zc,cM,dW,qW,wF,eZ,Qr,jZ,dM,qR,dY,jI,vY,vK,cX,lD,iH,wX,wP,Yx,eD,fS,Yq,Yg,Vu,eX,Wb,pP,Mi,Sr,wE,Xb,Sn,bZ,oP,Uf,lJ,mA,fO,Rn,nR,cA,Sx,vO,uB,Ve,dI,wQ,Sm,lX,sS,iJ,uM,cU,Zo,tW,cW,Sf,pK,Yd,qK,Sd,iY,mC,lV,NX,xE,uN,Uo,Xv,kH,sD,Ow,Xa,rF,Nu,Mc,aP,Rp,Xu,Wk,lI,Om,Og,Tu,Px,Xo,Yb,Un,Dn,Ud,fE,Su,oO,Ti,Yc,Xl,Zd,Ii,Ia,Qh,Pi,Ju,Lo,Sa,Ke,Ja,Xy,Ue,Kl,Sj]
 all_goals repeat(first|exact BY _|exact P3 _|refine EV ?_ (fun _=>?_)|refine a5y _ ?_ ?_)
theorem a3H{i:Q_C}{r:Q_T i}(h:I6 Q_N i=some r):d5 i=some r:=a8s b5v i4 h
end
section
open Go.RowKit
set_option maxRecDepth 100000
set_option maxHeartbeats 4000000
theorem PX a b:CM d5 a b=Qb0 d5 a b:=i4 (.c0 a b)
theorem VV a b c:Du d5 a b c=Qb1 d5 a b c:=i4 (.c1 a b c)
theorem a2h a b c d:tZ d5 a b c d=Qb2 d5 a b c d:=i4 (.c2 a b c d)
theorem a1v a b c d:iB d5 a b c d=Qb3 d5 a b c d:=i4 (.c3 a b c d)
theorem a9I a:LV d5 a=Qb4 d5 a:=i4 (.c4 a)
theorem b15 a b:UF d5 a b=Qb5 d5 a b:=i4 (.c5 a b)
theorem WQ a b c d e:Qn d5 a b c d e=Qb6 d5 a b c d e:=i4 (.c6 a b c d e)
theorem b1r a b:MP d5 a b=Qb7 d5 a b:=i4 (.c7 a b)
theorem b2S a:Hd d5 a=Qb8 d5 a:=i4 (.c8 a)
theorem b3T a:mW d5 a=Qb9 d5 a:=i4 (.c9 a)
theorem a9g a:Ym d5 a=tX d5 a:=i4 (.c10 a)
theorem a5c:rN d5=xR d5:=i4 (.c11)
theorem LG a b:KA d5 a b=Vm d5 a b:=i4 (.c12 a b)
theorem a02 a b:lG d5 a b=bK d5 a b:=i4 (.c13 a b)
theorem OV a:EG d5 a=Rq d5 a:=i4 (.c14 a)
theorem b36 a:HO d5 a=xC d5 a:=i4 (.c15 a)
theorem YG a b:oB d5 a b=Tx d5 a b:=i4 (.c16 a b)
theorem a85:MN d5=nP d5:=i4 (.c17)
theorem b07 a:a0w d5 a=qU d5 a:=i4 (.c18 a)
theorem a7D a:PA d5 a=qI d5 a:=i4 (.c19 a)
theorem a5o a:WB d5 a=jH d5 a:=i4 (.c20 a)
theorem a7R a:KJ d5 a=mP d5 a:=i4 (.c21 a)
theorem YV a b c:tR d5 a b c=Zg d5 a b c:=i4 (.c22 a b c)
theorem a5F a b:jO d5 a b=dA d5 a b:=i4 (.c23 a b)
theorem a6O a b:Vr d5 a b=nH d5 a b:=i4 (.c24 a b)
theorem b5k a b:GF d5 a b=vJ d5 a b:=i4 (.c25 a b)
theorem MR a b c d:iQ d5 a b c d=Vp d5 a b c d:=i4 (.c26 a b c d)
theorem a3B a b:fZ d5 a b=fB d5 a b:=i4 (.c27 a b)
theorem a6t a b c:sV d5 a b c=gU d5 a b c:=i4 (.c28 a b c)
theorem a49 a b c:RT d5 a b c=iD d5 a b c:=i4 (.c29 a b c)
theorem b1n a b:KZ d5 a b=iS d5 a b:=i4 (.c30 a b)
theorem OG a b c:xB d5 a b c=Sp d5 a b c:=i4 (.c31 a b c)
theorem a9m a b c:nY d5 a b c=cD d5 a b c:=i4 (.c32 a b c)
theorem PT a b c d e f:pE d5 a b c d e f=Zq d5 a b c d e f:=i4 (.c33 a b c d e f)
theorem b1Y a b c d e f:jK d5 a b c d e f=pG d5 a b c d e f:=i4 (.c34 a b c d e f)
theorem b2b a b c d:nV d5 a b c d=kN d5 a b c d:=i4 (.c35 a b c d)
theorem a7C a b c d e f:nD d5 a b c d e f=dG d5 a b c d e f:=i4 (.c36 a b c d e f)
theorem a81 a:Rk d5 a=nC d5 a:=i4 (.c37 a)
theorem a3I a:qG d5 a=vB d5 a:=i4 (.c38 a)
theorem a3X a:eK d5 a=eM d5 a:=i4 (.c39 a)
theorem a5t:mZ d5=EY d5:=i4 (.c40)
theorem a5w a:CG d5 a=fC d5 a:=i4 (.c41 a)
theorem a27 a b c:pH d5 a b c=iV d5 a b c:=i4 (.c42 a b c)
theorem a5C a b c:rD d5 a b c=vP d5 a b c:=i4 (.c43 a b c)
theorem CU a b c d:IE d5 a b c d=Ni d5 a b c d:=i4 (.c44 a b c d)
theorem a5r a:QQ d5 a=pD d5 a:=i4 (.c45 a)
theorem b5z a b c:Iu d5 a b c=uT d5 a b c:=i4 (.c46 a b c)
theorem a3i a b c:a0z d5 a b c=kF d5 a b c:=i4 (.c47 a b c)
theorem b1K a b:Wd d5 a b=cF d5 a b:=i4 (.c48 a b)
theorem a8D a b:oZ d5 a b=uW d5 a b:=i4 (.c49 a b)
theorem VF a b c:Xr d5 a b c=Xq d5 a b c:=i4 (.c50 a b c)
theorem a2u a b:PK d5 a b=rZ d5 a b:=i4 (.c51 a b)
theorem LQ a b c:eQ d5 a b c=Xk d5 a b c:=i4 (.c52 a b c)
theorem b2j:QA d5=pL d5:=i4 (.c53)
theorem a26 a:dH d5 a=fL d5 a:=i4 (.c54 a)
theorem b0O a b c d e f:vF d5 a b c d e f=eP d5 a b c d e f:=i4 (.c55 a b c d e f)
theorem a1E a b c d e:wZ d5 a b c d e=gG d5 a b c d e:=i4 (.c56 a b c d e)
theorem b2u a:Ae d5 a=gB d5 a:=i4 (.c57 a)
theorem a9w a:R9 d5 a=iO d5 a:=i4 (.c58 a)
theorem b5y a b:E0 d5 a b=qO d5 a b:=i4 (.c59 a b)
theorem b5B a b c d e:E8 d5 a b c d e=cE d5 a b c d e:=i4 (.c60 a b c d e)
theorem b5m a b:Dy d5 a b=lL d5 a b:=i4 (.c61 a b)
theorem a5z a b:H9 d5 a b=tL d5 a b:=i4 (.c62 a b)
theorem b0d a b:Eb d5 a b=cZ d5 a b:=i4 (.c63 a b)
theorem b2E a b:eN d5 a b=oK d5 a b:=i4 (.c64 a b)
theorem b2K a b:Aq d5 a b=hH d5 a b:=i4 (.c65 a b)
theorem a3Z a b:oF d5 a b=nF d5 a b:=i4 (.c66 a b)
theorem a9a a b:Cd d5 a b=fW d5 a b:=i4 (.c67 a b)
theorem a8Y a:Jo d5 a=mV d5 a:=i4 (.c68 a)
theorem ZZ a b c:qJ d5 a b c=Uk d5 a b c:=i4 (.c69 a b c)
theorem b4u a b:AL d5 a b=sK d5 a b:=i4 (.c70 a b)
theorem a5T a b:qQ d5 a b=nX d5 a b:=i4 (.c71 a b)
theorem b3h a:JW d5 a=oI d5 a:=i4 (.c72 a)
theorem a6y a b c d:wY d5 a b c d=lZ d5 a b c d:=i4 (.c73 a b c d)
theorem a23 a b c d:oU d5 a b c d=lC d5 a b c d:=i4 (.c74 a b c d)
theorem a8S a b:Ar d5 a b=lE d5 a b:=i4 (.c75 a b)
theorem a6E a:VB d5 a=sI d5 a:=i4 (.c76 a)
theorem a2W a b c:mO d5 a b c=uO d5 a b c:=i4 (.c77 a b c)
theorem a7G a b c:oH d5 a b c=sQ d5 a b c:=i4 (.c78 a b c)
theorem a1M a b:wT d5 a b=nT d5 a b:=i4 (.c79 a b)
theorem b2g a:FM d5 a=mY d5 a:=i4 (.c80 a)
theorem a7i a b:Pa d5 a b=sJ d5 a b:=i4 (.c81 a b)
theorem b3f a b:Rd d5 a b=dR d5 a b:=i4 (.c82 a b)
theorem b3P a:KL d5 a=pU d5 a:=i4 (.c83 a)
theorem b2P a:VH d5 a=dD d5 a:=i4 (.c84 a)
theorem b3w a b:Vh d5 a b=sL d5 a b:=i4 (.c85 a b)
theorem b0z a b:oE d5 a b=uY d5 a b:=i4 (.c86 a b)
theorem b4L a b:HK d5 a b=gM d5 a b:=i4 (.c87 a b)
theorem a6k a:Mj d5 a=wR d5 a:=i4 (.c88 a)
theorem a34 a b:nJ d5 a b=jQ d5 a b:=i4 (.c89 a b)
theorem a2T a:yU d5 a=vE d5 a:=i4 (.c90 a)
theorem MY a b:L4 d5 a b=So d5 a b:=i4 (.c91 a b)
theorem YK a b c d e:oY d5 a b c d e=aX d5 a b c d e:=i4 (.c92 a b c d e)
theorem TU a b c d e f:Kw d5 a b c d e f=Xx d5 a b c d e f:=i4 (.c93 a b c d e f)
theorem a7K a b c d e:yT d5 a b c d e=oQ d5 a b c d e:=i4 (.c94 a b c d e)
theorem b0J a b:XR d5 a b=gQ d5 a b:=i4 (.c95 a b)
theorem b21 a:Ov d5 a=mL d5 a:=i4 (.c96 a)
theorem a0e a b c:BS d5 a b c=Zx d5 a b c:=i4 (.c97 a b c)
theorem NP a b c:zD d5 a b c=Sg d5 a b c:=i4 (.c98 a b c)
theorem b1w a b:aN d5 a b=fY d5 a b:=i4 (.c99 a b)
theorem b1c a b:sF d5 a b=vR d5 a b:=i4 (.c100 a b)
theorem a9b a b c:Xd d5 a b c=sB d5 a b c:=i4 (.c101 a b c)
theorem b0G a b c:rI d5 a b c=tJ d5 a b c:=i4 (.c102 a b c)
theorem a1L a:Ei d5 a=wU d5 a:=i4 (.c103 a)
theorem a9W a b c:wA d5 a b c=tV d5 a b c:=i4 (.c104 a b c)
theorem b1I a b c:kI d5 a b c=rA d5 a b c:=i4 (.c105 a b c)
theorem b1b a:HJ d5 a=lQ d5 a:=i4 (.c106 a)
theorem a9q a b c d e:vZ d5 a b c d e=sX d5 a b c d e:=i4 (.c107 a b c d e)
theorem b4X a b c d e:kG d5 a b c d e=tF d5 a b c d e:=i4 (.c108 a b c d e)
theorem b2J a b c d e:mQ d5 a b c d e=bQ d5 a b c d e:=i4 (.c109 a b c d e)
theorem b03 a b c d e f:jX d5 a b c d e f=gX d5 a b c d e f:=i4 (.c110 a b c d e f)
theorem b2v a:a06 d5 a=mK d5 a:=i4 (.c111 a)
theorem a7j a b:bO d5 a b=gH d5 a b:=i4 (.c112 a b)
theorem a6x a b c:aU d5 a b c=gK d5 a b c:=i4 (.c113 a b c)
theorem a7I a b:uS d5 a b=sZ d5 a b:=i4 (.c114 a b)
theorem a4u a b:yP d5 a b=wW d5 a b:=i4 (.c115 a b)
theorem a5R a b:fV d5 a b=vX d5 a b:=i4 (.c116 a b)
theorem a4j a:fR d5 a=cN d5 a:=i4 (.c117 a)
theorem a9K a b:Rb d5 a b=eR d5 a b:=i4 (.c118 a b)
theorem UP a b c d:rX d5 a b c d=Zw d5 a b c d:=i4 (.c119 a b c d)
theorem SJ a b c:AC d5 a b c=Wi d5 a b c:=i4 (.c120 a b c)
theorem a78 a:oV d5 a=nQ d5 a:=i4 (.c121 a)
theorem b2x a b:pA d5 a b=tH d5 a b:=i4 (.c122 a b)
theorem b1y a b:rS d5 a b=oJ d5 a b:=i4 (.c123 a b)
theorem a4h a:FR d5 a=wC d5 a:=i4 (.c124 a)
theorem a4v a:fJ d5 a=fD d5 a:=i4 (.c125 a)
theorem a82 a:CR d5 a=jL d5 a:=i4 (.c126 a)
theorem a4a a:wO d5 a=vT d5 a:=i4 (.c127 a)
theorem a7b a:Gm d5 a=wV d5 a:=i4 (.c128 a)
theorem a9Q a b:U7 d5 a b=dB d5 a b:=i4 (.c129 a b)
theorem LN a b c d:bU d5 a b c d=bF d5 a b c d:=i4 (.c130 a b c d)
theorem a6I a:RZ d5 a=gO d5 a:=i4 (.c131 a)
theorem a3y a:zJ d5 a=qZ d5 a:=i4 (.c132 a)
theorem a1J a:nG d5 a=bR d5 a:=i4 (.c133 a)
theorem a4J a:rQ d5 a=kK d5 a:=i4 (.c134 a)
theorem a54 a:qV d5 a=qT d5 a:=i4 (.c135 a)
theorem a64:LL d5=rT d5:=i4 (.c136)
theorem a71 a b:Lv d5 a b=wD d5 a b:=i4 (.c137 a b)
theorem YL a b c:dL d5 a b c=Tm d5 a b c:=i4 (.c138 a b c)
theorem a2K:SE d5=pM d5:=i4 (.c139)
theorem a3N a b:yJ d5 a b=mJ d5 a b:=i4 (.c140 a b)
theorem VW a b c d e:Xj d5 a b c d e=aJ d5 a b c d e:=i4 (.c141 a b c d e)
theorem a7u a b c d:DT d5 a b c d=dU d5 a b c d:=i4 (.c142 a b c d)
theorem a4b a b c d:vQ d5 a b c d=vA d5 a b c d:=i4 (.c143 a b c d)
theorem a6T a:lB d5 a=tC d5 a:=i4 (.c144 a)
theorem WL a b:cG d5 a b=Vf d5 a b:=i4 (.c145 a b)
theorem a8x:RE d5=gV d5:=i4 (.c146)
theorem a21 a:N2 d5 a=yW d5 a:=i4 (.c147 a)
theorem b4n a b:fA d5 a b=kP d5 a b:=i4 (.c148 a b)
theorem PY a b c:fT d5 a b c=Sk d5 a b c:=i4 (.c149 a b c)
theorem a2p:MH d5=lN d5:=i4 (.c150)
theorem a9S a b:bW d5 a b=xG d5 a b:=i4 (.c151 a b)
theorem PL a b c d e:aO d5 a b c d e=Ya d5 a b c d e:=i4 (.c152 a b c d e)
theorem a68 a:WK d5 a=hY d5 a:=i4 (.c153 a)
theorem a8b a b c:Qg d5 a b c=fM d5 a b c:=i4 (.c154 a b c)
theorem XK a b c d:kL d5 a b c d=Vg d5 a b c d:=i4 (.c155 a b c d)
theorem a9h:NL d5=kJ d5:=i4 (.c156)
theorem b4T a:DC d5 a=jY d5 a:=i4 (.c157 a)
theorem XE a b c:kD d5 a b c=Ww d5 a b c:=i4 (.c158 a b c)
theorem b3z a:GN d5 a=gC d5 a:=i4 (.c159 a)
theorem fI a b c:Fy d5 a b c=Jn d5 a b c:=i4 (.c160 a b c)
theorem a4W a b:Kv d5 a b=iM d5 a b:=i4 (.c161 a b)
theorem PP a b c d:Wl d5 a b c d=Yj d5 a b c d:=i4 (.c162 a b c d)
theorem a9V a b c:RP d5 a b c=lS d5 a b c:=i4 (.c163 a b c)
theorem a3D a:EO d5 a=xH d5 a:=i4 (.c164 a)
theorem b2Y a b c:CT d5 a b c=oL d5 a b c:=i4 (.c165 a b c)
theorem VT a b c d:pR d5 a b c d=Tj d5 a b c d:=i4 (.c166 a b c d)
theorem b0Q:WD d5=cC d5:=i4 (.c167)
theorem b0Y a b c:Pk d5 a b c=sP d5 a b c:=i4 (.c168 a b c)
theorem b0q a b c d:JN d5 a b c d=qL d5 a b c d:=i4 (.c169 a b c d)
theorem a6R a b:SL d5 a b=bS d5 a b:=i4 (.c170 a b)
theorem a8G a b c:We d5 a b c=sT d5 a b c:=i4 (.c171 a b c)
theorem a6F a b c:Xi d5 a b c=uZ d5 a b c:=i4 (.c172 a b c)
theorem a7E a b:rY d5 a b=kT d5 a b:=i4 (.c173 a b)
theorem a5b a b c:oG d5 a b c=cV d5 a b c:=i4 (.c174 a b c)
theorem a1S a:DE d5 a=jC d5 a:=i4 (.c175 a)
theorem XD a b c d:Sv d5 a b c d=bD d5 a b c d:=i4 (.c176 a b c d)
theorem b0P a b c d:vI d5 a b c d=jW d5 a b c d:=i4 (.c177 a b c d)
theorem b40 a b c d:qS d5 a b c d=eY d5 a b c d:=i4 (.c178 a b c d)
theorem b0b a b c:Sw d5 a b c=lU d5 a b c:=i4 (.c179 a b c)
theorem b4z a b c d e:VQ d5 a b c d e=dS d5 a b c d e:=i4 (.c180 a b c d e)
theorem QN a b c d:jG d5 a b c d=Ye d5 a b c d:=i4 (.c181 a b c d)
theorem RD a b c d e f h j:Nh d5 a b c d e f h j=Vv d5 a b c d e f h j:=i4 (.c182 a b c d e f h j)
theorem a1P a:ZL d5 a=oC d5 a:=i4 (.c183 a)
theorem a6Y a b c d e f h j:Zl d5 a b c d e f h j=jE d5 a b c d e f h j:=i4 (.c184 a b c d e f h j)
theorem b0Z a b c d e f h j:Wt d5 a b c d e f h j=iK d5 a b c d e f h j:=i4 (.c185 a b c d e f h j)
theorem a99 a b c d e f h:Wj d5 a b c d e f h=qN d5 a b c d e f h:=i4 (.c186 a b c d e f h)
theorem b4M a b c d e f h j k:WM d5 a b c d e f h j k=cY d5 a b c d e f h j k:=i4 (.c187 a b c d e f h j k)
theorem a39 a b c d e:XF d5 a b c d e=sU d5 a b c d e:=i4 (.c188 a b c d e)
theorem a6S a:sN d5 a=pY d5 a:=i4 (.c189 a)
theorem a1c a b:rL d5 a b=Xt d5 a b:=i4 (.c190 a b)
theorem a8u:OO d5=nW d5:=i4 (.c191)
theorem b2W a b c:Pe d5 a b c=mU d5 a b c:=i4 (.c192 a b c)
theorem a5a a b c:Ha d5 a b c=fU d5 a b c:=i4 (.c193 a b c)
theorem b3Q a b:bI d5 a b=vG d5 a b:=i4 (.c194 a b)
theorem a5q a:KF d5 a=jF d5 a:=i4 (.c195 a)
theorem OJ a b c d:Te d5 a b c d=Yy d5 a b c d:=i4 (.c196 a b c d)
theorem SP a b c d e f h j:Pt d5 a b c d e f h j=Tg d5 a b c d e f h j:=i4 (.c197 a b c d e f h j)
theorem a1h a b c d e f:pC d5 a b c d e f=fK d5 a b c d e f:=i4 (.c198 a b c d e f)
theorem a6c a:XJ d5 a=cO d5 a:=i4 (.c199 a)
theorem a4k a b c d e f h j:Zb d5 a b c d e f h j=uA d5 a b c d e f h j:=i4 (.c200 a b c d e f h j)
theorem a58 a b c d e f h j:Wo d5 a b c d e f h j=nL d5 a b c d e f h j:=i4 (.c201 a b c d e f h j)
theorem b2B a b c d e f h:Jk d5 a b c d e f h=dZ d5 a b c d e f h:=i4 (.c202 a b c d e f h)
theorem b4o a b c d e f:vW d5 a b c d e f=gE d5 a b c d e f:=i4 (.c203 a b c d e f)
theorem a2X a b c d e f h j:MF d5 a b c d e f h j=iR d5 a b c d e f h j:=i4 (.c204 a b c d e f h j)
theorem b0W a b c d e:RX d5 a b c d e=uC d5 a b c d e:=i4 (.c205 a b c d e)
theorem b4j a b c d e:jP d5 a b c d e=sR d5 a b c d e:=i4 (.c206 a b c d e)
theorem a7H a b c d e f h:wL d5 a b c d e f h=pV d5 a b c d e f h:=i4 (.c207 a b c d e f h)
theorem cI a b c:Bm d5 a b c=Jv d5 a b c:=i4 (.c208 a b c)
theorem a5N a b c:Ep d5 a b c=jR d5 a b c:=i4 (.c209 a b c)
theorem b0S a b:Wm d5 a b=pB d5 a b:=i4 (.c210 a b)
theorem a2o a b c d:eW d5 a b c d=nB d5 a b c d:=i4 (.c211 a b c d)
theorem xP a b c d e:Lh d5 a b c d e=Oe d5 a b c d e:=i4 (.c212 a b c d e)
theorem QI a b c d e f h j:Nb d5 a b c d e f h j=Uh d5 a b c d e f h j:=i4 (.c213 a b c d e f h j)
theorem b2T a b c d e f:nZ d5 a b c d e f=nE d5 a b c d e f:=i4 (.c214 a b c d e f)
theorem QH a:NQ d5 a=Wh d5 a:=i4 (.c215 a)
theorem b0M a b c d e f:JY d5 a b c d e f=kC d5 a b c d e f:=i4 (.c216 a b c d e f)
theorem sH a b c d e:Ph d5 a b c d e=Lu d5 a b c d e:=i4 (.c217 a b c d e)
theorem b48 a b c d e:HN d5 a b c d e=qE d5 a b c d e:=i4 (.c218 a b c d e)
theorem MW a b c d e:Mk d5 a b c d e=Tz d5 a b c d e:=i4 (.c219 a b c d e)
theorem RK a b c d e f h j k:Nd d5 a b c d e f h j k=Si d5 a b c d e f h j k:=i4 (.c220 a b c d e f h j k)
theorem a76 a b c d e f h j:cP d5 a b c d e f h j=iZ d5 a b c d e f h j:=i4 (.c221 a b c d e f h j)
theorem b5o a b:QZ d5 a b=qD d5 a b:=i4 (.c222 a b)
theorem b4D a b c d e f h j:BE d5 a b c d e f h j=eC d5 a b c d e f h j:=i4 (.c223 a b c d e f h j)
theorem a4w a b c d e f h j:dT d5 a b c d e f h j=bY d5 a b c d e f h j:=i4 (.c224 a b c d e f h j)
theorem a8d a b c d:tQ d5 a b c d=kA d5 a b c d:=i4 (.c225 a b c d)
theorem a1a a b c d e f:jM d5 a b c d e f=Uc d5 a b c d e f:=i4 (.c226 a b c d e f)
theorem b3Y a b c:JR d5 a b c=mS d5 a b c:=i4 (.c227 a b c)
theorem a0A a b c d e:Yr d5 a b c d e=Ry d5 a b c d e:=i4 (.c228 a b c d e)
theorem a3Q a b:a0y d5 a b=kS d5 a b:=i4 (.c229 a b)
theorem a2P a b:JT d5 a b=oD d5 a b:=i4 (.c230 a b)
theorem WV a b c d e:bG d5 a b c d e=Yw d5 a b c d e:=i4 (.c231 a b c d e)
theorem a6V a b c d:CS d5 a b c d=wN d5 a b c d:=i4 (.c232 a b c d)
theorem b4r a:xZ d5 a=wS d5 a:=i4 (.c233 a)
theorem iP a b c:Ic d5 a b c=Jl d5 a b c:=i4 (.c234 a b c)
theorem NG a:Ll d5 a=Yl d5 a:=i4 (.c235 a)
theorem a4x a b:qP d5 a b=kQ d5 a b:=i4 (.c236 a b)
theorem a8R a:eO d5 a=lY d5 a:=i4 (.c237 a)
theorem XQ a:Wq d5 a=Wf d5 a:=i4 (.c238 a)
theorem a2b a b c:Ef d5 a b c=oM d5 a b c:=i4 (.c239 a b c)
theorem a73 a b c:J4 d5 a b c=uL d5 a b c:=i4 (.c240 a b c)
theorem b1N a b c:AN d5 a b c=pZ d5 a b c:=i4 (.c241 a b c)
theorem b4P a b c:Au d5 a b c=nI d5 a b c:=i4 (.c242 a b c)
theorem a2G a:CO d5 a=gY d5 a:=i4 (.c243 a)
theorem a7l a b:Jy d5 a b=fN d5 a b:=i4 (.c244 a b)
theorem a9d a b c:HP d5 a b c=rO d5 a b c:=i4 (.c245 a b c)
theorem b2A a b:JB d5 a b=uV d5 a b:=i4 (.c246 a b)
theorem OM a b c d e:Wp d5 a b c d e=Vz d5 a b c d e:=i4 (.c247 a b c d e)
theorem b1h a b c d:FV d5 a b c d=nN d5 a b c d:=i4 (.c248 a b c d)
theorem XP a b c d e:Vw d5 a b c d e=Yp d5 a b c d e:=i4 (.c249 a b c d e)
theorem MT a b c d e:Rz d5 a b c d e=Wc d5 a b c d e:=i4 (.c250 a b c d e)
theorem a1k a b:IA d5 a b=lH d5 a b:=i4 (.c251 a b)
theorem b3L a b:IQ d5 a b=sO d5 a b:=i4 (.c252 a b)
theorem b4e a b c:ZK d5 a b c=cJ d5 a b c:=i4 (.c253 a b c)
theorem a9c a b:sW d5 a b=xA d5 a b:=i4 (.c254 a b)
theorem UL a b c d:Tp d5 a b c d=aZ d5 a b c d:=i4 (.c255 a b c d)
theorem a38 a b:NH d5 a b=oN d5 a b:=i4 (.c256 a b)
theorem b5a a b c d:FQ d5 a b c d=lK d5 a b c d:=i4 (.c257 a b c d)
theorem a3E a b:dC d5 a b=iW d5 a b:=i4 (.c258 a b)
theorem a57 a b c d e:kE d5 a b c d e=pS d5 a b c d e:=i4 (.c259 a b c d e)
theorem a3K a:qF d5 a=qM d5 a:=i4 (.c260 a)
theorem b1Z a b:pF d5 a b=eV d5 a b:=i4 (.c261 a b)
theorem b1A:Ht d5=FA d5:=i4 (.c262)
theorem a8J a b c:BR d5 a b c=xD d5 a b c:=i4 (.c263 a b c)
theorem a6L a b:Q6 d5 a b=rK d5 a b:=i4 (.c264 a b)
theorem a6w a b c:I5 d5 a b c=gJ d5 a b c:=i4 (.c265 a b c)
theorem b4J a b c d:eI d5 a b c d=dF d5 a b c d:=i4 (.c266 a b c d)
theorem a33 a b c d e:vL d5 a b c d e=jS d5 a b c d e:=i4 (.c267 a b c d e)
theorem a42 a b c d e:CJ d5 a b c d e=gI d5 a b c d e:=i4 (.c268 a b c d e)
theorem Ub a b:Gy d5 a b=Ge d5 a b:=i4 (.c269 a b)
theorem a5B a b c d:Ql d5 a b c d=eS d5 a b c d:=i4 (.c270 a b c d)
theorem MK a b c d:Oi d5 a b c d=aV d5 a b c d:=i4 (.c271 a b c d)
theorem a52 a b:dJ d5 a b=cH d5 a b:=i4 (.c272 a b)
theorem b1j a b:NO d5 a b=eE d5 a b:=i4 (.c273 a b)
theorem a3S a b:oW d5 a b=qA d5 a b:=i4 (.c274 a b)
theorem NW a b c d:pW d5 a b c d=aF d5 a b c d:=i4 (.c275 a b c d)
theorem a3Y a b:a09 d5 a b=vC d5 a b:=i4 (.c276 a b)
theorem a90 a:FZ d5 a=gS d5 a:=i4 (.c277 a)
theorem OT a b c d:Hc d5 a b c d=Vb d5 a b c d:=i4 (.c278 a b c d)
theorem b2e a b:jU d5 a b=wG d5 a b:=i4 (.c279 a b)
theorem b1U a:rP d5 a=vV d5 a:=i4 (.c280 a)
theorem TW a:aA d5 a=Yv d5 a:=i4 (.c281 a)
theorem LO a b c:Mh d5 a b c=Tq d5 a b c:=i4 (.c282 a b c)
theorem b3I a b:xF d5 a b=lP d5 a b:=i4 (.c283 a b)
theorem XX a b:Zf d5 a b=Rx d5 a b:=i4 (.c284 a b)
theorem a4U a:JC d5 a=pT d5 a:=i4 (.c285 a)
theorem MV a b c:Uz d5 a b c=Zc d5 a b c:=i4 (.c286 a b c)
theorem a2E:a0o d5=cM d5:=i4 (.c287)
theorem a7m a b c:fX d5 a b c=dW d5 a b c:=i4 (.c288 a b c)
theorem b2p a b:K7 d5 a b=qW d5 a b:=i4 (.c289 a b)
theorem a2Z a b:DF d5 a b=wF d5 a b:=i4 (.c290 a b)
theorem a8V a b:bJ d5 a b=eZ d5 a b:=i4 (.c291 a b)
theorem DL a:Wn d5 a=Qr d5 a:=i4 (.c292 a)
theorem a4m a b c:Up d5 a b c=jZ d5 a b c:=i4 (.c293 a b c)
theorem a5Q a b:PB d5 a b=dM d5 a b:=i4 (.c294 a b)
theorem a6n a b c:Tv d5 a b c=qR d5 a b c:=i4 (.c295 a b c)
theorem b1W a b:YS d5 a b=dY d5 a b:=i4 (.c296 a b)
theorem a1R a b:xI d5 a b=jI d5 a b:=i4 (.c297 a b)
theorem a4Y a b c:Bn d5 a b c=vY d5 a b c:=i4 (.c298 a b c)
theorem b0X a b c:YQ d5 a b c=vK d5 a b c:=i4 (.c299 a b c)
theorem b3i a b c d e:Um d5 a b c d e=cX d5 a b c d e:=i4 (.c300 a b c d e)
theorem a8r a b c d:bL d5 a b c d=lD d5 a b c d:=i4 (.c301 a b c d)
theorem b20 a b c d e f:Uu d5 a b c d e f=iH d5 a b c d e f:=i4 (.c302 a b c d e f)
theorem b00 a:a07 d5 a=wX d5 a:=i4 (.c303 a)
theorem b3M a:nM d5 a=wP d5 a:=i4 (.c304 a)
theorem LY a b:mH d5 a b=Yx d5 a b:=i4 (.c305 a b)
theorem b4Q a b c:PF d5 a b c=eD d5 a b c:=i4 (.c306 a b c)
theorem b2N a b c:rU d5 a b c=fS d5 a b c:=i4 (.c307 a b c)
theorem QE a b c d e:Wx d5 a b c d e=Yq d5 a b c d e:=i4 (.c308 a b c d e)
theorem a1g a b c d e:bH d5 a b c d e=Yg d5 a b c d e:=i4 (.c309 a b c d e)
theorem SU a b c d e f:Cn d5 a b c d e f=Vu d5 a b c d e f:=i4 (.c310 a b c d e f)
theorem a6J a b:Io d5 a b=eX d5 a b:=i4 (.c311 a b)
theorem VS a b c d:Zk d5 a b c d=Wb d5 a b c d:=i4 (.c312 a b c d)
theorem b4W a b c:JO d5 a b c=pP d5 a b c:=i4 (.c313 a b c)
theorem CF a b:Uv d5 a b=Mi d5 a b:=i4 (.c314 a b)
theorem RS a:TL d5 a=Sr d5 a:=i4 (.c315 a)
theorem a8A a:Zi d5 a=wE d5 a:=i4 (.c316 a)
theorem LE a b:Nz d5 a b=Xb d5 a b:=i4 (.c317 a b)
theorem WA a b c d e:Mu d5 a b c d e=Sn d5 a b c d e:=i4 (.c318 a b c d e)
theorem a4I a:FO d5 a=bZ d5 a:=i4 (.c319 a)
theorem b0k a b:zF d5 a b=oP d5 a b:=i4 (.c320 a b)
theorem PG a b:eH d5 a b=Uf d5 a b:=i4 (.c321 a b)
theorem b5l:QD d5=lJ d5:=i4 (.c322)
theorem b0o a b:dE d5 a b=mA d5 a b:=i4 (.c323 a b)
theorem b1D a b:Ka d5 a b=fO d5 a b:=i4 (.c324 a b)
theorem OY a b c d:qX d5 a b c d=Rn d5 a b c d:=i4 (.c325 a b c d)
theorem b2c a b:VN d5 a b=nR d5 a b:=i4 (.c326 a b)
theorem a7O a b c d:P8 d5 a b c d=cA d5 a b c d:=i4 (.c327 a b c d)
theorem ND a:FJ d5 a=Sx d5 a:=i4 (.c328 a)
theorem a6s a b:Qb d5 a b=vO d5 a b:=i4 (.c329 a b)
theorem a3q a b:JQ d5 a b=uB d5 a b:=i4 (.c330 a b)
theorem PN a b c d:IT d5 a b c d=Ve d5 a b c d:=i4 (.c331 a b c d)
theorem a3c a b c:JH d5 a b c=dI d5 a b c:=i4 (.c332 a b c)
theorem a2H a b:X4 d5 a b=wQ d5 a b:=i4 (.c333 a b)
theorem RW a b c d e f h:Ro d5 a b c d e f h=Sm d5 a b c d e f h:=i4 (.c334 a b c d e f h)
theorem b1f a b c d:uG d5 a b c d=lX d5 a b c d:=i4 (.c335 a b c d)
theorem b2H a b c:iU d5 a b c=sS d5 a b c:=i4 (.c336 a b c)
theorem b0n a b c d e:aR d5 a b c d e=iJ d5 a b c d e:=i4 (.c337 a b c d e)
theorem a5U a b c d:IL d5 a b c d=uM d5 a b c d:=i4 (.c338 a b c d)
theorem a4D a b c:FX d5 a b c=cU d5 a b c:=i4 (.c339 a b c)
theorem a08 a b c d e:Yo d5 a b c d e=Zo d5 a b c d e:=i4 (.c340 a b c d e)
theorem b4g a b c:IY d5 a b c=tW d5 a b c:=i4 (.c341 a b c)
theorem a3A a b:BI d5 a b=cW d5 a b:=i4 (.c342 a b)
theorem a01 a b:CQ d5 a b=Sf d5 a b:=i4 (.c343 a b)
theorem a5A a b:Oy d5 a b=pK d5 a b:=i4 (.c344 a b)
theorem MX a b c:kY d5 a b c=Yd d5 a b c:=i4 (.c345 a b c)
theorem a2C a:gW d5 a=qK d5 a:=i4 (.c346 a)
theorem TT a b c:Vx d5 a b c=Sd d5 a b c:=i4 (.c347 a b c)
theorem a1z a b c d e f:uI d5 a b c d e f=iY d5 a b c d e f:=i4 (.c348 a b c d e f)
theorem a8o a:kZ d5 a=mC d5 a:=i4 (.c349 a)
theorem b2X a b c d:MG d5 a b c d=lV d5 a b c d:=i4 (.c350 a b c d)
theorem b2t a:DI d5 a=xE d5 a:=i4 (.l17_source a)
theorem b0r a:CZ d5 a=uN d5 a:=i4 (.l17_VerifyPrograms a)
theorem NY a b:rH d5 a b=Uo d5 a b:=i4 (.c354 a b)
theorem YT a b c d:Qm d5 a b c d=Xv d5 a b c d:=i4 (.c355 a b c d)
theorem a6K:UE d5=kH d5:=i4 (.c356)
theorem b3S a b:EA d5 a b=sD d5 a b:=i4 (.c357 a b)
theorem BW a:nU d5 a=Ow d5 a:=i4 (.c358 a)
theorem a04 a b:Cf d5 a b=Xa d5 a b:=i4 (.c359 a b)
theorem b3v:QR d5=rF d5:=i4 (.c360)
theorem AZ a b c:V1 d5 a b c=Nu d5 a b c:=i4 (.c361 a b c)
theorem xX a b c:tY d5 a b c=Mc d5 a b c:=i4 (.c362 a b c)
theorem ME a b:aM d5 a b=aP d5 a b:=i4 (.c363 a b)
theorem YI a:kB d5 a=Rp d5 a:=i4 (.c364 a)
theorem ZS a:uJ d5 a=Xu d5 a:=i4 (.c365 a)
theorem PO a b c:aD d5 a b c=Wk d5 a b c:=i4 (.c366 a b c)
theorem Pz a b:V7 d5 a b=lI d5 a b:=i4 (.c367 a b)
theorem EW a b c d e f:GB d5 a b c d e f=Om d5 a b c d e f:=i4 (.c368 a b c d e f)
theorem xJ a b c d e f:zC d5 a b c d e f=Og d5 a b c d e f:=i4 (.c369 a b c d e f)
theorem a0x a b c d e f:Bo d5 a b c d e f=Tu d5 a b c d e f:=i4 (.c370 a b c d e f)
theorem JI a b c d e:Bg d5 a b c d e=Px d5 a b c d e:=i4 (.c371 a b c d e)
theorem ZB a b:Kt d5 a b=Xo d5 a b:=i4 (.c372 a b)
theorem UQ a b c d:Py d5 a b c d=Yb d5 a b c d:=i4 (.c373 a b c d)
theorem TF a b c:BJ d5 a b c=Un d5 a b c:=i4 (.c374 a b c)
theorem Li a b c:Oq d5 a b c=Dn d5 a b c:=i4 (.c375 a b c)
theorem PU a b:OI d5 a b=Ud d5 a b:=i4 (.c376 a b)
theorem a5O a:JZ d5 a=fE d5 a:=i4 (.c377 a)
theorem XA a b c:Mz d5 a b c=Su d5 a b c:=i4 (.c378 a b c)
theorem a9P a b:dX d5 a b=oO d5 a b:=i4 (.c379 a b)
theorem a0M a b c d:Xz d5 a b c d=Ti d5 a b c d:=i4 (.c380 a b c d)
theorem WS a b c:Sz d5 a b c=Yc d5 a b c:=i4 (.c381 a b c)
theorem YC a b c d:Oj d5 a b c d=Xl d5 a b c d:=i4 (.c382 a b c d)
theorem KV a b c:CD d5 a b c=Zd d5 a b c:=i4 (.c383 a b c)
theorem qH a b c:V9 d5 a b c=Ii d5 a b c:=i4 (.c384 a b c)
theorem Ua a b c:Fc d5 a b c=Ia d5 a b c:=i4 (.c385 a b c)
theorem HR a:Hu d5 a=Qh d5 a:=i4 (.c386 a)
theorem JV a b:Yn d5 a b=Pi d5 a b:=i4 (.c387 a b)
theorem mD a b:Gv d5 a b=Ju d5 a b:=i4 (.c388 a b)
theorem Xe:R7 d5=Lo d5:=i4 (.c389)
theorem LC a:xQ d5 a=Sa d5 a:=i4 (.c390 a)
theorem rG a b:Hz d5 a b=Ke d5 a b:=i4 (.c391 a b)
theorem cT a b c d e:Gp d5 a b c d e=Ja d5 a b c d e:=i4 (.c392 a b c d e)
theorem VK a:uD d5 a=Xy d5 a:=i4 (.c393 a)
theorem YP a b:tO d5 a b=Ue d5 a b:=i4 (.c394 a b)
theorem mM a b:Tw d5 a b=Kl d5 a b:=i4 (.c395 a b)
theorem US:YO d5=Sj d5:=i4 (.c396)
end
section
def bn(p:l3):Nat:=if p.F.Code=0 then 0 else 1
def iN(p:l3):Nat:=p.I.toNat
def pl(z:Int):Nat:=if 0≤z∧z≤100000 then 0 else 1000000000
def D1(x:List d7):Nat:=(x.map fun n=>n.Gs.length+pl n.Ls).sum
def tl(L:List o4)(i:Nat):Nat:=((L.take i).map fun t=>t.Gs.length).sum
theorem N3:D1 []=0:=rfl
theorem Km(x y:List d7):D1 (x++y)=D1 x+D1 y:=by unfold D1;rw[F9,Ri]
theorem IX(n:d7)(y:List d7):D1 (n::y)=n.Gs.length+pl n.Ls+D1 y:=by unfold D1;rw[List.map_cons,List.sum_cons]
theorem a0r{L:List o4}{i:Nat}{t:o4}(h:L[i]? =some t):tl L (i+1)=tl L i+t.Gs.length:=by unfold tl;rw[List.take_add_one,h,F9,Ri];simp
theorem u7(L:List o4){i j:Nat}(h:i≤j):tl L i≤tl L j:=by obtain⟨d,rfl⟩:=Nat.exists_eq_add_of_le h;unfold tl;rw[List.take_add,F9,Ri];omega
structure Tk(L:List o4):Prop where
 last:∀(i:Nat) (t:o4),L[i]? =some t→i+1=L.length→t.Ks=8
 small:L.length≤1000000
structure PI(L:List o4)(p:l3):Prop where
 l:p.L=L
 i:p.I=(iN p:Int)
 lt:iN p<L.length
 ln:∀t∈L,pl t.Ls=0
theorem K3{L:List o4}{p:l3}(h:PI L p){i:Nat}{t:o4}(ht:L[i]? =some t):pl t.Ls=0:=h.ln t (K8 ht)
structure Fwd(L:List o4)(p p':l3):Prop where
 pi:PI L p'
 le:iN p≤iN p'
 le1:iN p'≤iN p+1
 mono:bn p≤bn p'
 stay:bn p=1→iN p'=iN p
 go:bn p'=0→iN p<iN p'
theorem o9(p:l3):bn p≤1:=by unfold bn;split<;>omega
theorem J9{α:Type}{b:Nat}{xs ys:List α}(hb:b≤1000)(h:xs.length+ys.length≤100000000):A4 b xs ys=some (xs++ys):=by unfold A4;rw[if_pos];unfold L6 maxLen;have:=Nat.mul_le_mul h hb;omega
theorem X7{L:List o4}{p:l3}(h:PI L p):∃t,R9 d5 p=some ((t,()),())∧L[iN p]? =some t:=by
 have h1:iN p<p.L.length:=(by rw[h.l];exact h.lt);refine⟨p.L[iN p],?_,?_⟩
 ·rw[a9w,iO,h.i,l7 h1];rfl
 ·rw[←h.l];exact p8 h1
theorem Dl(p:l3):Ae d5 p=some ((decide (bn p=1),()),()):=by
 rw[b2u,gB];unfold bn;by_cases c:p.F.Code=0
 ·rw[if_pos c,f9 c];rfl
 ·rw[if_neg c,d8 c];rfl
theorem E6{L:List o4}{p:l3}(h:PI L p)(s:b5Y):∃b:Bool,E0 d5 p s=some ((b,()),())∧(b=true→bn p=0∧∃t,L[iN p]? =some t∧(t.Ks=6∨t.Ks=7)):=by
 obtain⟨t,h1,h2⟩:=X7 h;rw[b5y,qO,h1,Dl];have hb:=o9 p;by_cases c:bn p=1
 ·rw[f9 c];exact⟨false,rfl,fun h=>nomatch h⟩
 ·rw[d8 c];by_cases c6:t.Ks=6
  ·refine⟨decide (t.Gs=s),?_,fun _=>⟨by omega,t,h2,.inl c6⟩⟩;simp only[d6,D3,i7,f9 c6]
  ·by_cases c7:t.Ks=7
   ·refine⟨decide (t.Gs=s),?_,fun _=>⟨by omega,t,h2,.inr c7⟩⟩;simp only[d6,D3,i7,f9 c7,d8 c6,i5]
   ·refine⟨false,?_,fun h=>nomatch h⟩;simp only[d6,D3,i7,d8 c7,d8 c6,i5]
theorem a3m{L:List o4}{p:l3}(h:PI L p)(e:Int)(he:e≠0):∃p',Dy d5 p e=some ((p',()),())∧PI L p'∧iN p'=iN p∧bn p'=1:=by
 rw[b5m,lL,Dl];have hb:=o9 p;by_cases c:bn p=1
 ·rw[f9 c];exact⟨p,rfl,h,rfl,c⟩
 ·rw[d8 c];obtain⟨t,h1,h2⟩:=X7 h;rw[h1];exact⟨_,rfl,⟨h.l,h.i,h.lt,h.ln⟩,rfl,if_neg he⟩
theorem Jd{L:List o4}{p:l3}(h:PI L p)(e:Int)(he:e≠0):∃p',Dy d5 p e=some ((p',()),())∧Fwd L p p'∧bn p'=1:=by obtain⟨p',h1,h2,h3,h4⟩:=a3m h e he;have:=o9 p;exact⟨p',h1,⟨h2,by omega,by omega,by omega,fun _=>h3,fun h=>by omega⟩,h4⟩
theorem zQ{L:List o4}(hL:Tk L){p:l3}(h:PI L p){t:o4}(ht:L[iN p]? =some t)(hk:t.Ks≠8)(hb:bn p=0)(d:Int):Fwd L p ⟨p.L,w64 (p.I+1),d,p.F⟩∧w64 (p.I+1)=((iN p+1:Nat):Int)∧iN p+1<L.length:=by
 have h1:iN p+1<L.length:=by have:=h.lt;have:iN p+1≠L.length:=fun e=>hk (hL.last _ _ ht e);omega
 have hs:=hL.small;have tn:=N3;have ln:([]:b5Y).length=0:=rfl;have e1:w64 (p.I+1)=((iN p+1:Nat):Int):=(by rw[h.i,wrap64 (by omega) (by omega)];omega);have e2:iN ⟨p.L,w64 (p.I+1),d,p.F⟩=iN p+1:=(by show(w64 (p.I+1)).toNat=_;rw[e1];rfl);have e3:bn ⟨p.L,w64 (p.I+1),d,p.F⟩=bn p:=rfl;exact⟨⟨⟨h.l,by rw[e2];exact e1,by rw[e2];exact h1,h.ln⟩,by omega,by omega,by omega,fun h=>by omega,fun h=>by omega⟩,e1,h1⟩
theorem I7{L:List o4}(hL:Tk L){p:l3}(h:PI L p)(s:b5Y):∃p',H9 d5 p s=some ((p',()),())∧Fwd L p p':=by
 obtain⟨b,h1,h2⟩:=E6 h s;rw[a5z,tL,h1];cases b with
 |false=>obtain⟨p',g1,g2,_⟩:=Jd h 5 (by decide);rw[d6,D3,i7,g1];exact⟨p',rfl,g2⟩
 |true=>obtain⟨hb,t,ht,hk⟩:=h2 rfl;exact⟨_,rfl,(zQ hL h ht (by omega) hb _).1⟩
theorem ZV{L:List o4}{p p':l3}(h:Fwd L p p')(d:Int):Fwd L p ⟨p'.L,p'.I,d,p'.F⟩:=⟨⟨h.pi.l,h.pi.i,h.pi.lt,h.pi.ln⟩,h.le,h.le1,h.mono,h.stay,h.go⟩
theorem Dg{L:List o4}(hL:Tk L){p:l3}(h:PI L p)(s:b5Y):∃p',Aq d5 p s=some ((p',()),())∧Fwd L p p':=by
 obtain⟨b,h1,h2⟩:=E6 h s;have key:∃p',oF d5 s p=some ((p',()),())∧Fwd L p p':=by obtain⟨p',g1,g2⟩:=I7 hL h s;rw[a3Z,nF,g1];exact⟨_,rfl,ZV g2 _⟩
 rw[b2K,hH,h1];cases b with
 |false=>exact key
 |true=>
  rw[d6,i7];cases decide (p.Or≥40)with
  |false=>exact key
  |true=>obtain⟨p',g1,g2,_⟩:=Jd h 6 (by decide);rw[i7,g1];exact⟨p',rfl,g2⟩
theorem Ey{L:List o4}(hL:Tk L){p:l3}(h:PI L p)(s:b5Y):∃p',Cd d5 p s=some ((p',()),())∧Fwd L p p':=by obtain⟨p',g1,g2⟩:=I7 hL h s;rw[a9a,fW,g1];exact⟨_,rfl,ZV g2 _⟩
theorem It{L:List o4}(hL:Tk L){p:l3}(h:PI L p)(k:Int)(hk:k≠8):∃t p',Eb d5 p k=some ((t,p',()),())∧Fwd L p p'∧(bn p'=0→t.Gs.length+tl L (iN p)≤tl L (iN p'))∧pl t.Ls=0:=by
 obtain⟨t,h1,h2⟩:=X7 h;have key:∃t' p',eN d5 p ((t,()),())=some ((t',p',()),())∧Fwd L p p'∧(bn p'=0→t'.Gs.length+tl L (iN p)≤tl L (iN p'))∧pl t'.Ls=0:=by obtain⟨p',g1,g2,g3⟩:=Jd h 5 (by decide);rw[b2E,oK,g1];exact⟨t,p',rfl,g2,fun h=>by omega,K3 h h2⟩
 rw[b0d,cZ,h1,Dl];have hb:=o9 p;by_cases c:bn p=1
 ·rw[f9 c];exact key
 ·rw[d8 c];simp only[d6,i5];by_cases c2:t.Ks=k
  ·rw[f9 c2];obtain⟨q1,q2,q3⟩:=zQ hL h h2 (by omega) (by omega) p.Or;refine⟨t,⟨p.L,w64 (p.I+1),p.Or,p.F⟩,rfl,q1,fun _=>?_,K3 h h2⟩;have e2:iN ⟨p.L,w64 (p.I+1),p.Or,p.F⟩=iN p+1:=(by show(w64 (p.I+1)).toNat=_;rw[q2];rfl);rw[e2,a0r h2];omega
  ·rw[d8 c2];exact key
theorem J0(k:Int)(t:o4)(s:b5Y)(n:Int)(x:List d7)(h:x.length≤50000000)(hl:pl t.Ls=0):∃y,E8 d5 k t s n x=some ((y,()),())∧y.length=x.length+1∧D1 y=s.length+D1 x:=by rw[b5B,cE,J9 (by decide) (by simp;omega)];exact⟨_,rfl,by simp,by rw[Km,IX,N3,show pl (d7.mk k t.Ls t.If (x.length:Int) n s).Ls=0 from hl];rfl⟩
theorem Cp(x y:List d7)(h:x.length+y.length≤50000000):∃z,Ar d5 x y=some ((z,()),())∧z.length=x.length+y.length∧D1 z=D1 x+D1 y:=by rw[a8S,lE,J9 (by decide) (by simp;omega),d6,J9 (by decide) (by simp;omega)];exact⟨_,rfl,by simp,by simp[Km,N3]⟩
structure Ok(L:List o4)(b c:Nat)(p:l3)(x:List d7)(p':l3):Prop where
 pi:PI L p'
 le:iN p≤iN p'
 mono:bn p≤bn p'
 stay:bn p=1→iN p'=iN p∧x.length≤c
 go:bn p'=0→iN p<iN p'
 sz:x.length≤10*(iN p'-iN p)+b*bn p'
 ne:1≤x.length
 tx:bn p'=0→D1 x+tl L (iN p)≤tl L (iN p')
def mu(L:List o4)(p:l3):Nat:=if bn p=1 then 0 else 1+(L.length-iN p)
theorem Ee{L:List o4}{p p':l3}(h:PI L p)(g:Fwd L p p')(hb:bn p=0):mu L p'<mu L p:=by have h1:=g.go;have h2:=g.pi.lt;have h3:=h.lt;have h4:=o9 p';unfold mu;rw[if_neg (by omega:¬bn p=1)];split<;>omega
theorem XV{L:List o4}{b c:Nat}{p p':l3}{x:List d7}(h:PI L p)(g:Ok L b c p x p')(hb:bn p=0):mu L p'<mu L p:=by have h1:=g.go;have h2:=g.pi.lt;have h3:=h.lt;have h4:=o9 p';unfold mu;rw[if_neg (by omega:¬bn p=1)];split<;>omega
def Ga:List (b5Y):=[([105,110,116]:b5Y),([98,111,111,108]:b5Y),([115,116,114]:b5Y),([99,111,109,112]:b5Y)]
theorem iA{L:List o4}(hL:Tk L):∀(m:Nat) (p:l3),PI L p→mu L p=m→∃x p',Jo d5 p=some ((x,p',()),())∧Ok L 3 1 p x p':=by
 intro m
 induction m using Nat.strongRecOn with
 |_ m ih=>
 intro p h hm;have hs:=hL.small;have tn:=N3;have ln:([]:b5Y).length=0:=rfl;have hlt:=h.lt;obtain⟨t,ht,ht2⟩:=X7 h;have key:∃x p',AL d5 p ((t,()),())=some ((x,p',()),())∧Ok L 3 1 p x p':=by
  rw[b4u,sK];obtain⟨b,h1,h2⟩:=E6 h [91];rw[h1];cases b with
  |true=>obtain⟨hb,_⟩:=h2 rfl;obtain⟨p1,g1,s1⟩:=Dg hL h [91];obtain⟨x,p2,g2,s2⟩:=ih _ (by have:=Ee h s1 hb;omega) p1 s1.pi rfl;have zt:=s2.tx;have z:=s2.sz;have z1:=s2.pi.lt;have z2:=o9 p2;obtain⟨y,g3,hy,hyt⟩:=J0 20 t [] 0 x (by have:=s2.pi.lt;omega) (K3 h ht2);obtain⟨p3,g4,s3⟩:=Ey hL s2.pi [93];rw[d6,i7,g1,d6,g2,d6,g3,d6,g4];have at1:=u7 L s1.le;have a1:=s1.le;have a2:=s1.mono;have a3:=s1.stay;have a4:=s1.go;have a5:=o9 p1;have bt1:=u7 L s2.le;have b1:=s2.le;have b2:=s2.mono;have b3:=s2.stay;have b4:=s2.go;have ct1:=u7 L s3.le;have c1:=s3.le;have c2:=s3.mono;have c3:=s3.stay;have c4:=s3.go;have c5:=o9 p3;exact⟨y,p3,rfl,s3.pi,by omega,by omega,fun h=>by omega,fun h=>by omega,by omega,by omega,fun h=>by omega⟩
  |false=>obtain⟨t',p1,g1,s1,s1w,s1l⟩:=It hL h 2 (by decide);obtain⟨y,g3,hy,hyt⟩:=J0 19 t' t'.Gs 0 [] (by simp) s1l;rw[d6,i5,g1,d6,g3];have at1:=u7 L s1.le;have a1:=s1.le;have a2:=s1.mono;have a3:=s1.stay;have a4:=s1.go;have a5:=o9 p1;simp only[I0]at hy;exact⟨y,p1,rfl,s1.pi,by omega,by omega,fun h=>by omega,fun h=>by omega,by omega,by omega,fun h=>by omega⟩
 have loop:∀(n i:Nat),4-i=n→∃x p',qJ d5 (i:Int) p ((t,()),())=some ((x,p',()),())∧Ok L 3 1 p x p':=by
  intro n
  induction n with
  |zero=>intro i hi;rw[ZZ,Uk,d8 (by show¬(i:Int)<((4:Nat):Int);omega)];exact key
  |succ n ihn=>
   intro i hi;have e1:w64 ((i:Int)+1)=((i+1:Nat):Int):=(by rw[wrap64 (by omega) (by omega)];omega);have hi4:i<Ga.length:=(by show i<4;omega);obtain⟨b,h1,h2⟩:=E6 h Ga[i];obtain⟨p1,g1,s1⟩:=I7 hL h Ga[i];obtain⟨y,g3,hy,hyt⟩:=J0 (IntKind.wrap .u8 (w64 (15+(i:Int)))) t [] 0 [] (by simp) (K3 h ht2);have q1:i6 Ga (i:Int)=some Ga[i]:=l7 hi4;have q2:Ga[i]? =some Ga[i]:=p8 hi4;rw[ZZ,Uk,f9 (by show(i:Int)<((4:Nat):Int);omega),i7];unfold Ga at q1 q2 h1 g1;rw[q1,d6,B8,q2,d6,h1,d6,e1];cases b with
   |false=>exact ihn (i+1) (by omega)
   |true=>rw[i7,g3,d6,d6,d6,g1];have at1:=u7 L s1.le;have a1:=s1.le;have a2:=s1.mono;have a3:=s1.stay;have a4:=s1.go;have a5:=o9 p1;simp only[I0]at hy;exact⟨y,p1,rfl,s1.pi,by omega,by omega,fun h=>by omega,fun h=>by omega,by omega,by omega,fun h=>by omega⟩
 rw[a8Y,mV,ht];exact loop _ 0 rfl
theorem SK{L:List o4}(hL:Tk L){p:l3}(h:PI L p)(k:Int):∃x p',qQ d5 p k=some ((x,p',()),())∧Ok L 4 2 p x p':=by have hs:=hL.small;have tn:=N3;have ln:([]:b5Y).length=0:=rfl;obtain⟨t,p1,g1,s1,s1w,s1l⟩:=It hL h 1 (by decide);obtain⟨p2,g2,s2⟩:=I7 hL s1.pi [58];obtain⟨x,p3,g3,s3⟩:=iA hL _ p2 s2.pi rfl;have zt:=s3.tx;have z:=s3.sz;have z1:=s3.pi.lt;have z2:=o9 p3;obtain⟨y,g4,hy,hyt⟩:=J0 k t t.Gs 0 x (by omega) s1l;rw[a5T,nX,g1,d6,g2,d6,g3,d6,g4];have at1:=u7 L s1.le;have a1:=s1.le;have a2:=s1.mono;have a3:=s1.stay;have a4:=s1.go;have a5:=o9 p1;have bt1:=u7 L s2.le;have b1:=s2.le;have b2:=s2.mono;have b3:=s2.stay;have b4:=s2.go;have b5:=o9 p2;have ct1:=u7 L s3.le;have c1:=s3.le;have c2:=s3.mono;have c3:=s3.stay;have c4:=s3.go;have c5:=s3.ne;exact⟨y,p3,rfl,s3.pi,by omega,by omega,fun h=>by omega,fun h=>by omega,by omega,by omega,fun h=>by omega⟩
theorem a3u{L:List o4}{p p':l3}{y:List d7}(g:Fwd L p p')(hy:y.length=1)(ht:D1 y+tl L (iN p)≤tl L (iN p')):Ok L 3 1 p y p':=by have ga:=g.le;have gb:=g.mono;have gc:=g.stay;have gd:=g.go;have ge:=o9 p';have gf:=g.pi.lt;have gt:=u7 L g.le;exact⟨g.pi,by omega,by omega,fun h=>by omega,fun h=>by omega,by omega,by omega,fun h=>by omega⟩
theorem b1S{L:List o4}(hL:Tk L){m:Nat}(hE:∀q,PI L q→mu L q<m→∃x p',L4 d5 q 1=some ((x,p',()),())∧Ok L 3 1 q x p')(p0:l3):∀(n:Nat) (q:l3) (c:List d7) (a:Int),mu L q=n→PI L q→n<m→iN p0≤iN q→c.length≤10*(iN q-iN p0)+3*bn q→(bn q=0→D1 c+tl L (iN p0)≤tl L (iN q))→∃x p',mO d5 a q c=some ((x,p',()),())∧PI L p'∧iN q≤iN p'∧bn q≤bn p'∧(bn q=1→iN p'=iN q)∧x.length≤10*(iN p'-iN p0)+3*bn p'∧(bn p'=0→D1 x+tl L (iN p0)≤tl L (iN p')):=by
 intro n;have hs:=hL.small;have tn:=N3;have ln:([]:b5Y).length=0:=rfl
 induction n using Nat.strongRecOn with
 |_ n ih=>
 intro q c a hn h hm h0 hc hct;have hlt:=h.lt;have hb:=o9 q;have fin:∃x p',wT d5 q c=some ((x,p',()),())∧PI L p'∧iN q≤iN p'∧bn q≤bn p'∧(bn q=1→iN p'=iN q)∧x.length≤10*(iN p'-iN p0)+3*bn p'∧(bn p'=0→D1 x+tl L (iN p0)≤tl L (iN p')):=by obtain⟨p1,g1,s1⟩:=Ey hL h [41];rw[a1M,nT,g1];have s1a:=s1.le;have s1b:=s1.mono;have s1c:=s1.stay;have s1d:=s1.go;have s1e:=o9 p1;have s1f:=s1.pi.lt;have s1t:=u7 L s1.le;exact⟨c,p1,rfl,s1.pi,by omega,by omega,fun h=>by omega,by omega,fun h=>by omega⟩
 rw[a2W,uO,Dl];by_cases cb:bn q=1
 ·rw[f9 cb];exact fin
 ·rw[d8 cb];simp only[d6,D3,i7];obtain⟨b,h1,h2⟩:=E6 h [41];rw[h1];cases b with
  |true=>exact fin
  |false=>
   simp only[d6,D3,i7];have body:∀q1,PI L q1→iN q≤iN q1→bn q≤bn q1→(bn q1=1∨iN q≤iN q1)→mu L q1≤n→∃x p',oH d5 a q1 c=some ((x,p',()),())∧PI L p'∧iN q≤iN p'∧bn q≤bn p'∧(bn q=1→iN p'=iN q)∧x.length≤10*(iN p'-iN p0)+3*bn p'∧(bn p'=0→D1 x+tl L (iN p0)≤tl L (iN p')):=by
    intro q1 hq1 k1 k2 k3 k4;obtain⟨x,p2,g2,s2⟩:=hE q1 hq1 (by omega);have s2a:=s2.le;have s2b:=s2.mono;have s2c:=s2.stay;have s2d:=s2.go;have s2e:=o9 p2;have s2f:=s2.pi.lt;have s2g:=s2.sz;have s2h:=s2.ne;have s2t:=u7 L s2.le;have s2x:=s2.tx;have hb1:=o9 q1;have hq1lt:=hq1.lt;have kt:=u7 L k1;have hz:c.length+x.length≤100000000:=(by omega);rw[a7G,sQ,g2,d6,J9 (by decide) hz,d6];have hmu:mu L p2<n:=by unfold mu at hn⊢;rw[if_neg cb]at hn;split<;>omega
    obtain⟨x',p',r1,r2,r3,r4,r5,r6,r7⟩:=ih _ hmu p2 (c++x) (w64 (a+1)) rfl s2.pi (by omega) (by omega) (by rw[o5];omega) (fun h=>by rw[Km];omega);exact⟨x',p',r1,r2,by omega,by omega,fun h=>by omega,r6,r7⟩
   cases decide (a>0)with
   |false=>exact body q h (i8 _) (i8 _) (by omega) (by omega)
   |true=>obtain⟨p1,g1,s1⟩:=I7 hL h [44];rw[i7,g1,d6];have s1a:=s1.le;have s1b:=s1.mono;have s1c:=s1.stay;have s1d:=s1.go;have s1e:=o9 p1;have s1f:=s1.pi.lt;have s1t:=u7 L s1.le;exact body p1 s1.pi (by omega) (by omega) (by omega) (by have:=Ee h s1 (by omega);omega)
theorem a9N{L:List o4}(hL:Tk L){m:Nat}(hE:∀q,PI L q→mu L q<m→∃x p',L4 d5 q 1=some ((x,p',()),())∧Ok L 3 1 q x p'){p:l3}(h:PI L p)(hm:mu L p=m):∃x p',FM d5 p=some ((x,p',()),())∧Ok L 3 1 p x p':=by
 have hs:=hL.small;have tn:=N3;have ln:([]:b5Y).length=0:=rfl;have hlt:=h.lt;have hb:=o9 p;obtain⟨t,ht,ht2⟩:=X7 h;rw[b2g,mY,ht,Dl];by_cases cb:bn p=1
 ·rw[f9 cb];exact⟨_,p,rfl,h,i8 _,i8 _,fun _=>⟨rfl,by simp⟩,fun h=>by omega,by simp;omega,by simp,fun h=>by omega⟩
 rw[d8 cb];have hg:bn p=0:=(by omega);have eL:p.L.length=L.length:=(by rw[h.l]);have hQ2:t.Ks≠8→Fwd L p ⟨p.L,(if(w64 ((p.L.length:Int)-1))<(w64 (p.I+1))then(w64 ((p.L.length:Int)-1))else(w64 (p.I+1))),p.Or,p.F⟩∧t.Gs.length+tl L (iN p)≤tl L (iN (⟨p.L,(if(w64 ((p.L.length:Int)-1))<(w64 (p.I+1))then(w64 ((p.L.length:Int)-1))else(w64 (p.I+1))),p.Or,p.F⟩:l3)):=by intro hk;obtain⟨q1,q2,q3⟩:=zQ hL h ht2 hk hg p.Or;rw[if_neg (by rw[q2,eL,wrap64 (by omega) (by omega)];omega)];have e2:iN ⟨p.L,w64 (p.I+1),p.Or,p.F⟩=iN p+1:=(by show(w64 (p.I+1)).toNat=_;rw[q2];rfl);refine⟨q1,?_⟩;rw[e2,a0r ht2];omega
 have hQb:bn (⟨p.L,(if(w64 ((p.L.length:Int)-1))<(w64 (p.I+1))then(w64 ((p.L.length:Int)-1))else(w64 (p.I+1))),p.Or,p.F⟩:l3)=bn p:=rfl;have j0:Pa d5 p ((t,()),())=Pa d5 p ((t,()),()):=rfl;have j1:Rd d5 p ((t,()),())=Rd d5 p ((t,()),()):=rfl
 conv at j0=>rhs;rw[a7i,sJ]
 conv at j1=>rhs;rw[b3f,dR]
 simp only at j0 j1;generalize (⟨p.L,(if(w64 ((p.L.length:Int)-1))<(w64 (p.I+1))then(w64 ((p.L.length:Int)-1))else(w64 (p.I+1))),p.Or,p.F⟩:l3)=Q at*;have hQ:=fun hk=>(hQ2 hk).1;have hQt:=fun hk=>(hQ2 hk).2;have leaf:∀(k:Int) (s:b5Y) (n:Int),(s=[]∨s=t.Gs)→t.Ks≠8→∃y,E8 d5 k t s n []=some ((y,()),())∧Ok L 3 1 p y Q:=by intro k s n hst hk;obtain⟨y,g,hy,hyt⟩:=J0 k t s n [] (by simp) (K3 h ht2);have hq:=hQt hk;have hqm:=u7 L (hQ hk).le;refine⟨y,g,a3u (hQ hk) hy ?_⟩;rcases hst with rfl|rfl<;>omega
 have isK:∀{s:b5Y},E0 d5 p s=some ((true,()),())→t.Ks≠8:=by intro s hi;obtain⟨b,h1,h2⟩:=E6 h s;rw[h1]at hi;cases hi;obtain⟨_,t',q1,q2⟩:=h2 rfl;rw[ht2]at q1;cases q1;omega
 have end2:∃x p',KL d5 p=some ((x,p',()),())∧Ok L 3 1 p x p':=by obtain⟨p',g1,g2,g3⟩:=Jd h 5 (by decide);rw[b3P,pU,g1];have g2a:=g2.le;have g2b:=g2.mono;have g2c:=g2.stay;have g2d:=g2.go;have g2e:=o9 p';have g2f:=g2.pi.lt;have g2t:=u7 L g2.le;exact⟨_,p',rfl,g2.pi,by omega,by omega,fun _=>⟨by omega,by simp⟩,fun h=>by omega,by simp;omega,by simp,fun h=>by omega⟩
 have end0:∃x p',Pa d5 p ((t,()),())=some ((x,p',()),())∧Ok L 3 1 p x p':=by
  rw[j0];obtain⟨b,h1,h2⟩:=E6 h [109,97,107,101];rw[h1];cases b with
  |false=>exact end2
  |true=>have s0:=hQ (isK h1);obtain⟨t',p1,g1,s1,s1w,s1l⟩:=It hL s0.pi 2 (by decide);obtain⟨y,g2,hy,hyt⟩:=J0 19 t' t'.Gs 0 [] (by simp) s1l;obtain⟨z,g3,hz,hzt⟩:=J0 32 t [] 0 y (by rw[hy];simp) (K3 h ht2);obtain⟨p2,g4,s2⟩:=Dg hL s1.pi [40];obtain⟨p3,g5,s3⟩:=Ey hL s2.pi [41];simp only[I0]at hy;rw[d6,i7,g1,d6,g2,d6,g3,d6,g4,d6,g5];have s0a:=s0.le;have s0b:=s0.mono;have s0c:=s0.stay;have s0d:=s0.go;have s0e:=o9 Q;have s0f:=s0.pi.lt;have s0t:=u7 L s0.le;have s1a:=s1.le;have s1b:=s1.mono;have s1c:=s1.stay;have s1d:=s1.go;have s1e:=o9 p1;have s1f:=s1.pi.lt;have s1t:=u7 L s1.le;have s2a:=s2.le;have s2b:=s2.mono;have s2c:=s2.stay;have s2d:=s2.go;have s2e:=o9 p2;have s2f:=s2.pi.lt;have s2t:=u7 L s2.le;have s3a:=s3.le;have s3b:=s3.mono;have s3c:=s3.stay;have s3d:=s3.go;have s3e:=o9 p3;have s3f:=s3.pi.lt;have s3t:=u7 L s3.le;exact⟨z,p3,rfl,s3.pi,by omega,by omega,fun h=>by omega,fun h=>by omega,by omega,by omega,fun h=>by omega⟩
 have end1:∃x p',Rd d5 p ((t,()),())=some ((x,p',()),())∧Ok L 3 1 p x p':=by
  rw[j1];by_cases c1:t.Ks=1
  ·rw[f9 c1,i7];have s0:=hQ (by omega);have s0q:=hQt (by omega);have s0a:=s0.le;have s0b:=s0.mono;have s0c:=s0.stay;have s0d:=s0.go;have s0e:=o9 Q;have s0f:=s0.pi.lt;have s0t:=u7 L s0.le;obtain⟨p1,g1,s1⟩:=Dg hL s0.pi [40];have s1a:=s1.le;have s1b:=s1.mono;have s1c:=s1.stay;have s1d:=s1.go;have s1e:=o9 p1;have s1f:=s1.pi.lt;have s1t:=u7 L s1.le;have m0:=Ee h s0 hg;have m1:=Ee s0.pi s1 (by omega);obtain⟨x,p2,g2,r2,r3,r4,r5,r6,r6t⟩:=b1S hL hE Q _ p1 [] 0 rfl s1.pi (by omega) (by omega) (by simp) (fun h=>by omega);have r7:=r2.lt;have r8:=o9 p2;obtain⟨y,g3,hy,hyt⟩:=J0 27 t t.Gs 0 x (by omega) (K3 h ht2);rw[a6E,sI,g1,d6,g2,d6,g3];exact⟨y,p2,rfl,r2,by omega,by omega,fun h=>by omega,fun h=>by omega,by omega,by omega,fun h=>by omega⟩
  ·rw[d8 c1,i5];obtain⟨b,h1,h2⟩:=E6 h [40];rw[h1,d6];cases b with
   |true=>obtain⟨p1,g1,s1⟩:=Dg hL h [40];obtain⟨x,p2,g2,s2⟩:=hE p1 s1.pi (by have:=Ee h s1 hg;omega);obtain⟨p3,g3,s3⟩:=Ey hL s2.pi [41];rw[i7,g1,d6,g2,d6,g3];have s1a:=s1.le;have s1b:=s1.mono;have s1c:=s1.stay;have s1d:=s1.go;have s1e:=o9 p1;have s1f:=s1.pi.lt;have s1t:=u7 L s1.le;have s2a:=s2.le;have s2b:=s2.mono;have s2c:=s2.stay;have s2d:=s2.go;have s2e:=o9 p2;have s2f:=s2.pi.lt;have s2g:=s2.sz;have s2h:=s2.ne;have s2t:=u7 L s2.le;have s2x:=s2.tx;have s3a:=s3.le;have s3b:=s3.mono;have s3c:=s3.stay;have s3d:=s3.go;have s3e:=o9 p3;have s3f:=s3.pi.lt;have s3t:=u7 L s3.le;exact⟨x,p3,rfl,s3.pi,by omega,by omega,fun h=>by omega,fun h=>by omega,by omega,by omega,fun h=>by omega⟩
   |false=>
    rw[i5];obtain⟨b,h1,h2⟩:=E6 h [109,97,107,101];rw[h1,d6];cases b with
    |false=>exact end0
    |true=>
     have s0:=hQ (isK h1);have s0a:=s0.le;have s0b:=s0.mono;have s0c:=s0.stay;have s0d:=s0.go;have s0e:=o9 Q;have s0f:=s0.pi.lt;have s0t:=u7 L s0.le;obtain⟨b,h1,h2⟩:=E6 s0.pi [91];rw[i7,h1,d6];cases b with
     |false=>exact end0
     |true=>
      obtain⟨k,p1,g1,s1⟩:=iA hL _ Q s0.pi rfl;have s1a:=s1.le;have s1b:=s1.mono;have s1c:=s1.stay;have s1d:=s1.go;have s1e:=o9 p1;have s1f:=s1.pi.lt;have s1g:=s1.sz;have s1h:=s1.ne;have s1t:=u7 L s1.le;have s1x:=s1.tx;obtain⟨p2,g2,s2⟩:=Dg hL s1.pi [40];have s2a:=s2.le;have s2b:=s2.mono;have s2c:=s2.stay;have s2d:=s2.go;have s2e:=o9 p2;have s2f:=s2.pi.lt;have s2t:=u7 L s2.le;have hm2:mu L p2<m:=by unfold mu at hm⊢;rw[if_neg cb]at hm;split<;>omega
      obtain⟨x,p3,g3,s3⟩:=hE p2 s2.pi hm2;have s3a:=s3.le;have s3b:=s3.mono;have s3c:=s3.stay;have s3d:=s3.go;have s3e:=o9 p3;have s3f:=s3.pi.lt;have s3g:=s3.sz;have s3h:=s3.ne;have s3t:=u7 L s3.le;have s3x:=s3.tx;obtain⟨y,g4,hy,hyt⟩:=Cp k x (by omega);obtain⟨z,g5,hz,hzt⟩:=J0 32 t [] 0 y (by omega) (K3 h ht2);obtain⟨p4,g6,s4⟩:=Ey hL s3.pi [41];have s4a:=s4.le;have s4b:=s4.mono;have s4c:=s4.stay;have s4d:=s4.go;have s4e:=o9 p4;have s4f:=s4.pi.lt;have s4t:=u7 L s4.le;rw[i7,g1,d6,g2,d6,g3,d6,g4,d6,g5,d6,g6];exact⟨z,p4,rfl,s4.pi,by omega,by omega,fun h=>by omega,fun h=>by omega,by omega,by omega,fun h=>by omega⟩
 simp only[d6,i5];by_cases c3:t.Ks=3
 ·obtain⟨y,g,o⟩:=leaf 21 [] t.Ns (.inl rfl) (by omega);rw[f9 c3,i7,g];exact⟨y,Q,rfl,o⟩
 by_cases c4:t.Ks=4
 ·obtain⟨y,g,o⟩:=leaf 22 [] t.Ns (.inl rfl) (by omega);rw[d8 c3,i5,f9 c4,i7,g];exact⟨y,Q,rfl,o⟩
 by_cases c5:t.Ks=5
 ·obtain⟨y,g,o⟩:=leaf 23 t.Gs 0 (.inr rfl) (by omega);rw[d8 c3,i5,d8 c4,i5,f9 c5,i7,g];exact⟨y,Q,rfl,o⟩
 rw[d8 c3,i5,d8 c4,i5,d8 c5,i5];obtain⟨b,h1,h2⟩:=E6 h [116,114,117,101];rw[h1,d6];cases b with
 |true=>obtain⟨y,g,o⟩:=leaf 24 [] 1 (.inl rfl) (isK h1);rw[i7,g];exact⟨y,Q,rfl,o⟩
 |false=>
 rw[i5];obtain⟨b,h1,h2⟩:=E6 h [102,97,108,115,101];rw[h1,d6];cases b with
 |true=>obtain⟨y,g,o⟩:=leaf 24 [] 0 (.inl rfl) (isK h1);rw[i7,g];exact⟨y,Q,rfl,o⟩
 |false=>
 rw[i5];obtain⟨b,h1,h2⟩:=E6 h [110,105,108];rw[h1,d6];cases b with
 |true=>obtain⟨y,g,o⟩:=leaf 25 [] 0 (.inl rfl) (isK h1);rw[i7,g];exact⟨y,Q,rfl,o⟩
 |false=>
 rw[i5];by_cases c1:t.Ks=1
 ·rw[f9 c1,i7];obtain⟨b,h1,h2⟩:=E6 (hQ (by omega)).pi [40];rw[h1,d6];cases b with
  |false=>obtain⟨y,g,o⟩:=leaf 26 t.Gs 0 (.inr rfl) (by omega);rw[D3,i7,g];exact⟨y,Q,rfl,o⟩
  |true=>exact end1
 ·rw[d8 c1,i5];exact end1
structure Lp(L:List o4)(i0:Nat)(q:l3)(x:List d7)(x':List d7)(p':l3):Prop where
 pi:PI L p'
 le:iN q≤iN p'
 mono:bn q≤bn p'
 stay:bn q=1→iN p'=iN q∧x'.length=x.length
 sz:x'.length≤10*(iN p'-i0)+3*bn p'
 ne:1≤x'.length
 tx:bn p'=0→D1 x'+tl L i0≤tl L (iN p')
theorem Cv{L:List o4}{p p':l3}(h:PI L p)(h':PI L p')(hb:bn p=0)(hg:bn p'=1∨iN p<iN p'):mu L p'<mu L p:=by have h2:=h'.lt;have h3:=h.lt;have h4:=o9 p';unfold mu;rw[if_neg (by omega:¬bn p=1)];split<;>omega
theorem b5w{L:List o4}(hL:Tk L){m:Nat}(hE:∀q,PI L q→mu L q<m→∃x p',L4 d5 q 1=some ((x,p',()),())∧Ok L 3 1 q x p')(i0:Nat):∀(n:Nat) (q:l3) (x:List d7),mu L q=n→PI L q→(bn q=1∨n<m)→i0≤iN q→1≤x.length→x.length≤10*(iN q-i0)+3*bn q→(bn q=0→D1 x+tl L i0≤tl L (iN q))→∃x' p',Vh d5 x q=some ((x',p',()),())∧Lp L i0 q x x' p':=by
 intro n;have hs:=hL.small;have tn:=N3;have ln:([]:b5Y).length=0:=rfl
 induction n using Nat.strongRecOn with
 |_ n ih=>
 intro q x hn h hm h0 hx1 hx hxt;have hlt:=h.lt;have hb:=o9 q;have fin:∃x' p',HK d5 x q=some ((x',p',()),())∧Lp L i0 q x x' p':=by rw[b4L,gM];exact⟨x,q,rfl,h,i8 _,i8 _,fun _=>⟨rfl,rfl⟩,hx,hx1,hxt⟩
 have body:bn q=0→∃x' p',oE d5 x q=some ((x',p',()),())∧Lp L i0 q x x' p':=by
  intro hg;obtain⟨t,ht,ht2⟩:=X7 h;rw[b0z,uY,ht];simp only[d6];by_cases c:t.Gs=([91]:b5Y)
  ·rw[f9 c,i7];obtain⟨p1,g1,s1⟩:=Dg hL h [91];have s1a:=s1.le;have s1b:=s1.mono;have s1c:=s1.stay;have s1d:=s1.go;have s1e:=o9 p1;have s1f:=s1.pi.lt;have s1t:=u7 L s1.le;have m1:=Ee h s1 hg;obtain⟨y,p2,g2,s2⟩:=hE p1 s1.pi (by omega);have s2a:=s2.le;have s2b:=s2.mono;have s2c:=s2.stay;have s2d:=s2.go;have s2e:=o9 p2;have s2f:=s2.pi.lt;have s2g:=s2.sz;have s2h:=s2.ne;have s2t:=u7 L s2.le;have s2x:=s2.tx;obtain⟨p3,g3,s3⟩:=Ey hL s2.pi [93];have s3a:=s3.le;have s3b:=s3.mono;have s3c:=s3.stay;have s3d:=s3.go;have s3e:=o9 p3;have s3f:=s3.pi.lt;have s3t:=u7 L s3.le;have hz:x.length+y.length≤50000000:=(by omega);obtain⟨z,g4,hz4,hz4t⟩:=Cp x y hz;have hz5:z.length≤50000000:=(by omega);obtain⟨w,g5,hw,hwt⟩:=J0 28 t [] 0 z hz5 (K3 h ht2);rw[g1,d6,g2,d6,g3,d6,g4,d6,g5,d6];have hlt3:=Cv h s3.pi hg (by omega);obtain⟨x',p',r,o⟩:=ih _ (by omega) p3 w rfl s3.pi (by omega) (by omega) (by omega) (by omega) (fun h=>by omega);have oa:=o.le;have ob:=o.mono;have oc:=o.stay;exact⟨x',p',r,o.pi,by omega,by omega,fun h=>by omega,o.sz,o.ne,o.tx⟩
  ·rw[d8 c,i5];obtain⟨p1,g1,s1⟩:=I7 hL h [46];have s1a:=s1.le;have s1b:=s1.mono;have s1c:=s1.stay;have s1d:=s1.go;have s1e:=o9 p1;have s1f:=s1.pi.lt;have s1t:=u7 L s1.le;obtain⟨t',p2,g2,s2,s2w,s2l⟩:=It hL s1.pi 1 (by decide);have s2a:=s2.le;have s2b:=s2.mono;have s2c:=s2.stay;have s2d:=s2.go;have s2e:=o9 p2;have s2f:=s2.pi.lt;have s2t:=u7 L s2.le;have hz:x.length≤50000000:=(by omega);obtain⟨w,g5,hw,hwt⟩:=J0 29 t t'.Gs 0 x hz (K3 h ht2);rw[g1,d6,g2,d6,g5,d6];have hlt3:=Cv h s2.pi hg (by omega);obtain⟨x',p',r,o⟩:=ih _ (by omega) p2 w rfl s2.pi (by omega) (by omega) (by omega) (by omega) (fun h=>by omega);have oa:=o.le;have ob:=o.mono;have oc:=o.stay;exact⟨x',p',r,o.pi,by omega,by omega,fun h=>by omega,o.sz,o.ne,o.tx⟩
 rw[b3w,sL];obtain⟨b,h1,h2⟩:=E6 h [91];rw[h1,d6];cases b with
 |true=>exact body (h2 rfl).1
 |false=>
  obtain⟨b,h1,h2⟩:=E6 h [46];rw[i5,h1,d6];cases b with
  |true=>exact body (h2 rfl).1
  |false=>exact fin
theorem TZ{L:List o4}{b c:Nat}{p p':l3}{x:List d7}(h:Ok L b c p x p')(d:Int):Ok L b c p x ⟨p'.L,p'.I,d,p'.F⟩:=⟨⟨h.pi.l,h.pi.i,h.pi.lt,h.pi.ln⟩,h.le,h.mono,h.stay,h.go,h.sz,h.ne,h.tx⟩
theorem a9L{L:List o4}(hL:Tk L){m:Nat}(hE:∀q,PI L q→mu L q<m→∃x p',L4 d5 q 1=some ((x,p',()),())∧Ok L 3 1 q x p')(hU:∀q,PI L q→mu L q<m→∃x p',Mj d5 q=some ((x,p',()),())∧Ok L 3 1 q x p'){p:l3}(h:PI L p)(hm:mu L p=m):∃x p',Mj d5 p=some ((x,p',()),())∧Ok L 3 1 p x p':=by
 have hs:=hL.small;have tn:=N3;have ln:([]:b5Y).length=0:=rfl;have hlt:=h.lt;have hb:=o9 p;obtain⟨t,ht,ht2⟩:=X7 h;have body:bn p=0→∃x p',nJ d5 p ((t,()),())=some ((x,p',()),())∧Ok L 3 1 p x p':=by
  intro hg;rw[a34,jQ];obtain⟨p1,g1,s1⟩:=Dg hL h t.Gs;have s1a:=s1.le;have s1b:=s1.mono;have s1c:=s1.stay;have s1d:=s1.go;have s1e:=o9 p1;have s1f:=s1.pi.lt;have s1t:=u7 L s1.le;have m1:=Ee h s1 hg;obtain⟨x,p2,g2,s2⟩:=hU p1 s1.pi (by omega);have s2a:=s2.le;have s2b:=s2.mono;have s2c:=s2.stay;have s2d:=s2.go;have s2e:=o9 p2;have s2f:=s2.pi.lt;have s2g:=s2.sz;have s2h:=s2.ne;have s2t:=u7 L s2.le;have s2x:=s2.tx;have hz:x.length≤50000000:=(by omega);obtain⟨y,g3,hy,hyt⟩:=J0 30 t [] 12 x hz (K3 h ht2);obtain⟨z,g4,hz4,hz4t⟩:=J0 30 t [] 13 x hz (K3 h ht2);simp only;rw[g1,d6,g2,d6,g3,g4];cases decide (t.Gs=([45]:b5Y))with
  |true=>exact⟨y,_,rfl,TZ (p':=p2) ⟨s2.pi,by omega,by omega,fun h=>by omega,fun h=>by omega,by omega,by omega,fun h=>by omega⟩ _⟩
  |false=>exact⟨z,_,rfl,TZ (p':=p2) ⟨s2.pi,by omega,by omega,fun h=>by omega,fun h=>by omega,by omega,by omega,fun h=>by omega⟩ _⟩
 rw[a6k,wR,ht,d6];obtain⟨b,h1,h2⟩:=E6 h [45];rw[h1,d6];cases b with
 |true=>exact body (h2 rfl).1
 |false=>
  obtain⟨b,h1,h2⟩:=E6 h [33];rw[D3,i7,h1,d6];cases b with
  |true=>exact body (h2 rfl).1
  |false=>
   obtain⟨x,p1,g1,s1⟩:=a9N hL hE h hm;have s1a:=s1.le;have s1b:=s1.mono;have s1c:=s1.stay;have s1d:=s1.go;have s1e:=o9 p1;have s1f:=s1.pi.lt;have s1g:=s1.sz;have s1h:=s1.ne;have s1t:=u7 L s1.le;have s1x:=s1.tx;obtain⟨x',p',g2,o⟩:=b5w hL hE (iN p) _ p1 x rfl s1.pi (by
    by_cases c:bn p1=1
    ·exact .inl c
    ·right;have:=XV h s1 (by omega);omega) s1a s1h s1g s1x
   have oa:=o.le;have ob:=o.mono;have oc:=o.stay;have od:=o.sz;have oe:=o.ne;have ot:=o.tx;rw[D3,i7,b2P,dD,g1,d6,g2];exact⟨x',p',rfl,o.pi,by omega,by omega,fun h=>by omega,fun h=>by omega,by omega,by omega,fun h=>by omega⟩
theorem b1Q(lv:Nat)(h1:1≤lv)(h6:lv≤6):∃e:U9,yU d5 (lv:Int)=some e∧e.1.1.length=e.1.2.1.length∧e.1.1.length≤4:=by
 have:lv=1∨lv=2∨lv=3∨lv=4∨lv=5∨lv=6:=(by omega);rw[a2T,vE];rcases this with rfl|rfl|rfl|rfl|rfl|rfl
 all_goals exact⟨_,rfl,rfl,by decide⟩
theorem b3C{L:List o4}(hL:Tk L){m:Nat}(lv:Nat)(hlv:lv≤6)(e:U9)(he:e.1.1.length=e.1.2.1.length)(he4:e.1.1.length≤4)(hN:∀q,PI L q→mu L q<m→∃x p',L4 d5 q ((lv+1:Nat):Int)=some ((x,p',()),())∧Ok L 3 1 q x p')(i0:Nat):∀(n i:Nat) (x:List d7) (c:Bool) (q:l3),e.1.1.length-i=n→PI L q→(bn q=1∨mu L q<m)→i0≤iN q→1≤x.length→x.length≤10*(iN q-i0)+3*bn q→(bn q=0→D1 x+tl L i0≤tl L (iN q))→∃x' c' q',Kw d5 (lv:Int) x c e (i:Int) q=yT d5 (lv:Int) x' c' q' e∧Lp L i0 q x x' q'∧(c=true→q'=q∧c'=true)∧(c=false→c'=true→mu L q'<mu L q):=by
 intro n;have hs:=hL.small;have tn:=N3;have ln:([]:b5Y).length=0:=rfl
 induction n with
 |zero=>intro i x c q hi h hm h0 hx1 hx hxt;rw[TU,Xx,d8 (by omega),i5];exact⟨x,c,q,rfl,⟨h,i8 _,i8 _,fun _=>⟨rfl,rfl⟩,hx,hx1,hxt⟩,fun hc=>⟨rfl,hc⟩,fun h1 h2=>by rw[h1]at h2;cases h2⟩
 |succ n ih=>
  intro i x c q hi h hm h0 hx1 hx hxt;have hlt:=h.lt;have hb:=o9 q;have e1:w64 ((i:Int)+1)=((i+1:Nat):Int):=(by rw[wrap64 (by omega) (by omega)];omega);have e2:w64 ((lv:Int)+1)=((lv+1:Nat):Int):=(by rw[wrap64 (by omega) (by omega)];omega);have hi1:i<e.1.1.length:=(by omega);have hi2:i<e.1.2.1.length:=(by omega);have skip:=ih (i+1) x c q (by omega) h hm h0 hx1 hx hxt;rw[TU,Xx,f9 (by omega),i7,e1,e2];cases c with
  |true=>exact skip
  |false=>
   obtain⟨b,h1,h2⟩:=E6 h e.1.1[i];rw[D3,i7,l7 hi1,d6,B8,p8 hi1,d6,h1,d6];cases b with
   |false=>exact skip
   |true=>have hg:=(h2 rfl).1;obtain⟨t,ht,ht2⟩:=X7 h;obtain⟨p1,g1,s1⟩:=I7 hL h e.1.1[i];have s1a:=s1.le;have s1b:=s1.mono;have s1c:=s1.stay;have s1d:=s1.go;have s1e:=o9 p1;have s1f:=s1.pi.lt;have s1t:=u7 L s1.le;have m1:=Ee h s1 hg;obtain⟨y,p2,g2,s2⟩:=hN p1 s1.pi (by omega);have s2a:=s2.le;have s2b:=s2.mono;have s2c:=s2.stay;have s2d:=s2.go;have s2e:=o9 p2;have s2f:=s2.pi.lt;have s2g:=s2.sz;have s2h:=s2.ne;have s2t:=u7 L s2.le;have s2x:=s2.tx;have hz:x.length+y.length≤50000000:=(by omega);obtain⟨z,g4,hz4,hz4t⟩:=Cp x y hz;have hz5:z.length≤50000000:=(by omega);obtain⟨w,g5,hw,hwt⟩:=J0 31 t [] e.1.2.1[i] z hz5 (K3 h ht2);have hlt3:=Cv h s2.pi hg (by omega);obtain⟨x',c',q',r,o,k1,k2⟩:=ih (i+1) w true p2 (by omega) s2.pi (by omega) (by omega) (by omega) (by omega) (fun h=>by omega);rw[i7,ht,d6,d6,d6,g1,d6,g2,d6,l7 hi2,d6,p8 hi2,d6,g4,d6,g5,d6];have oa:=o.le;have ob:=o.mono;have oc:=o.stay;exact⟨x',c',q',r,⟨o.pi,by omega,by omega,fun h=>by omega,o.sz,o.ne,o.tx⟩,(fun h=>nomatch h),fun _ _=>by rw[(k1 rfl).1];exact hlt3⟩
theorem b2U{L:List o4}(hL:Tk L){m:Nat}(lv:Nat)(hlv:lv≤6)(e:U9)(he:e.1.1.length=e.1.2.1.length)(he4:e.1.1.length≤4)(hN:∀q,PI L q→mu L q<m→∃x p',L4 d5 q ((lv+1:Nat):Int)=some ((x,p',()),())∧Ok L 3 1 q x p')(i0:Nat):∀(n:Nat) (x:List d7) (q:l3),mu L q=n→PI L q→(bn q=1∨n<m)→i0≤iN q→1≤x.length→x.length≤10*(iN q-i0)+3*bn q→(bn q=0→D1 x+tl L i0≤tl L (iN q))→∃x' p',oY d5 (lv:Int) x true q e=some ((x',p',()),())∧Lp L i0 q x x' p':=by
 intro n
 induction n using Nat.strongRecOn with
 |_ n ih=>
 intro x q hn h hm h0 hx1 hx hxt;have hb:=o9 q;obtain⟨x1,c1,q1,r,o,_,k2⟩:=b3C hL lv hlv e he he4 hN i0 _ 0 x false q rfl h (by omega) h0 hx1 hx hxt;have fin:∃x' p',(some ((x1,q1,()),()):b5J)=some ((x',p',()),())∧Lp L i0 q x x' p':=⟨x1,q1,rfl,o⟩;rw[YK,aX,i7,show Kw d5 (lv:Int) x false e 0 q=_ from r,a7K,oQ];by_cases d3:(lv:Int)=3
 ·rw[f9 d3];exact fin
 by_cases d4:(lv:Int)=4
 ·rw[d8 d3,f9 d4];exact fin
 rw[d8 d3,d8 d4,i5,i5];cases c1 with
 |false=>rw[YK,aX,i5,b0J,gQ];exact fin
 |true=>
  have hlt:=k2 rfl rfl;have oa:=o.le;have ob:=o.mono;have oc:=o.stay;have hq1:=o9 q1;obtain⟨x',p',r',o'⟩:=ih (mu L q1) (by omega) x1 q1 rfl o.pi (by
   by_cases cq:bn q=1
   ·exact .inl (by omega)
   ·exact .inr (by omega)) (by omega) o.ne o.sz o.tx
  have pa:=o'.le;have pb:=o'.mono;have pc:=o'.stay;exact⟨x',p',r',o'.pi,by omega,by omega,fun h=>by omega,o'.sz,o'.ne,o'.tx⟩
theorem b2V{L:List o4}(hL:Tk L):∀(m:Nat) (p:l3),PI L p→mu L p=m→(∃x p',Mj d5 p=some ((x,p',()),())∧Ok L 3 1 p x p')∧∀lv:Nat,1≤lv→lv≤7→∃x p',L4 d5 p (lv:Int)=some ((x,p',()),())∧Ok L 3 1 p x p':=by
 intro m
 induction m using Nat.strongRecOn with
 |_ m ih=>
 intro p h hm;have hX:∀lv:Nat,1≤lv→lv≤7→∀q,PI L q→mu L q<m→∃x p',L4 d5 q (lv:Int)=some ((x,p',()),())∧Ok L 3 1 q x p':=fun lv a b q hq hl=>(ih _ hl q hq rfl).2 lv a b;have hU:=a9L hL (hX 1 (by omega) (by omega)) (fun q hq hl=>(ih _ hl q hq rfl).1) h hm;refine⟨hU,?_⟩;have key:∀j lv:Nat,7-lv=j→1≤lv→lv≤7→∃x p',L4 d5 p (lv:Int)=some ((x,p',()),())∧Ok L 3 1 p x p':=by
  intro j
  induction j with
  |zero=>intro lv hj h1 h7;obtain⟨x,p',g,o⟩:=hU;rw[MY,So,f9 (by omega),i7,g];exact⟨x,p',rfl,o⟩
  |succ j ihj=>
   intro lv hj h1 h7;have e2:w64 ((lv:Int)+1)=((lv+1:Nat):Int):=(by rw[wrap64 (by omega) (by omega)];omega);obtain⟨x,p1,g1,s1⟩:=ihj (lv+1) (by omega) (by omega) (by omega);have s1a:=s1.le;have s1b:=s1.mono;have s1c:=s1.stay;have s1d:=s1.go;have s1e:=o9 p1;have s1f:=s1.pi.lt;have s1g:=s1.sz;have s1h:=s1.ne;have s1t:=u7 L s1.le;have s1x:=s1.tx;obtain⟨e,he,he1,he2⟩:=b1Q lv h1 (by omega);have hb:=o9 p;obtain⟨x',p',g2,o⟩:=b2U hL lv (by omega) e he1 he2 (hX (lv+1) (by omega) (by omega)) (iN p) _ x p1 rfl s1.pi (by
    by_cases c:bn p1=1
    ·exact .inl c
    ·right;have:=XV h s1 (by omega);omega) s1a s1h s1g s1x
   have oa:=o.le;have ob:=o.mono;have oc:=o.stay;have od:=o.sz;have oe:=o.ne;have ot:=o.tx;rw[MY,So,d8 (by omega),i5,e2,g1,d6,he,d6,g2];exact⟨x',p',rfl,o.pi,by omega,by omega,fun h=>by omega,fun h=>by omega,by omega,by omega,fun h=>by omega⟩
 exact fun lv=>key _ lv rfl
theorem Jx{L:List o4}(hL:Tk L){p:l3}(h:PI L p):∃x p',L4 d5 p 1=some ((x,p',()),())∧Ok L 3 1 p x p':=(b2V hL _ p h rfl).2 1 (by omega) (by omega)
theorem a8p{L:List o4}(hL:Tk L){m:Nat}(hS:∀q,PI L q→mu L q<m→∃x p',Ov d5 q=some ((x,p',()),())∧Ok L 5 2 q x p')(t:RT5)(htl:pl t.1.1.Ls=0)(i0:Nat):∀(n:Nat) (q:l3) (c:List d7),mu L q=n→PI L q→(bn q=1∨n<m)→i0≤iN q→c.length≤10*(iN q-i0)+5*bn q→(bn q=0→D1 c+tl L i0≤tl L (iN q))→∃x p',wA d5 q t c=some ((x,p',()),())∧PI L p'∧iN q≤iN p'∧bn q≤bn p'∧(bn q=1→iN p'=iN q∧x.length=c.length+1)∧x.length≤10*(iN p'-i0)+5*bn p'+1∧1≤x.length∧(bn p'=0→D1 x+tl L i0≤tl L (iN p')):=by
 intro n;have hs:=hL.small;have tn:=N3;have ln:([]:b5Y).length=0:=rfl
 induction n using Nat.strongRecOn with
 |_ n ih=>
 intro q c hn h hm h0 hc hct;have hlt:=h.lt;have hb:=o9 q;have fin:∃x p',kI d5 q t c=some ((x,p',()),())∧PI L p'∧iN q≤iN p'∧bn q≤bn p'∧(bn q=1→iN p'=iN q∧x.length=c.length+1)∧x.length≤10*(iN p'-i0)+5*bn p'+1∧1≤x.length∧(bn p'=0→D1 x+tl L i0≤tl L (iN p')):=by have hz:c.length≤50000000:=(by omega);obtain⟨y,g0,hy,hyt⟩:=J0 6 t.1.1 [] 0 c hz htl;obtain⟨p1,g1,s1⟩:=Ey hL h [125];rw[b1I,rA,g0,d6,g1];have s1a:=s1.le;have s1b:=s1.mono;have s1c:=s1.stay;have s1d:=s1.go;have s1e:=o9 p1;have s1f:=s1.pi.lt;have s1t:=u7 L s1.le;exact⟨y,p1,rfl,s1.pi,by omega,by omega,fun h=>by omega,by omega,by omega,fun h=>by omega⟩
 rw[a9W,tV,Dl];by_cases cb:bn q=1
 ·rw[f9 cb];exact fin
 ·rw[d8 cb];simp only[d6,D3,i7];obtain⟨b,h1,h2⟩:=E6 h [125];rw[h1,d6];cases b with
  |true=>exact fin
  |false=>obtain⟨x,p1,g1,s1⟩:=hS q h (by omega);have s1a:=s1.le;have s1b:=s1.mono;have s1c:=s1.stay;have s1d:=s1.go;have s1e:=o9 p1;have s1f:=s1.pi.lt;have s1g:=s1.sz;have s1h:=s1.ne;have s1t:=u7 L s1.le;have s1x:=s1.tx;have hz:c.length+x.length≤100000000:=(by omega);rw[D3,i7,g1,d6,J9 (by decide) hz,d6];have hlt3:=Cv h s1.pi (by omega) (by omega);obtain⟨x',p',r,r1,r2,r3,r4,r5,r6,r7⟩:=ih _ (by omega) p1 (c++x) rfl s1.pi (by omega) (by omega) (by rw[o5];omega) (fun h=>by rw[Km];omega);exact⟨x',p',r,r1,by omega,by omega,fun h=>by omega,r5,r6,r7⟩
theorem b5e{L:List o4}(hL:Tk L){m:Nat}(hS:∀q,PI L q→mu L q<m→∃x p',Ov d5 q=some ((x,p',()),())∧Ok L 5 2 q x p'){p:l3}(h:PI L p)(hm:mu L p=m):∃x p',Ei d5 p=some ((x,p',()),())∧Ok L 3 1 p x p':=by
 have hs:=hL.small;have tn:=N3;have ln:([]:b5Y).length=0:=rfl;have hlt:=h.lt;have hb:=o9 p;obtain⟨t,ht,ht2⟩:=X7 h;obtain⟨p1,g1,s1⟩:=Dg hL h [123];have s1a:=s1.le;have s1b:=s1.mono;have s1c:=s1.stay;have s1d:=s1.go;have s1e:=o9 p1;have s1f:=s1.pi.lt;have s1t:=u7 L s1.le;obtain⟨x,p',r,r1,r2,r3,r4,r5,r6,r7⟩:=a8p hL hS ((t,()),()) (K3 h ht2) (iN p1) _ p1 [] rfl s1.pi (by
  by_cases c:bn p1=1
  ·exact .inl c
  ·right;have:=Ee h s1 (by omega);omega) (i8 _) (by simp) (fun h=>by omega)
 have hb':=o9 p';simp only[I0]at r4;rw[a1L,wU,ht,d6,g1,d6];exact⟨x,p',r,r1,by omega,by omega,fun h=>by omega,fun h=>by omega,by omega,by omega,fun h=>by omega⟩
set_option maxHeartbeats 2000000 in
theorem a1T{L:List o4}(hL:Tk L){m:Nat}(hB:∀q,PI L q→mu L q<m→∃x p',Ei d5 q=some ((x,p',()),())∧Ok L 3 1 q x p'){p:l3}(h:PI L p)(hm:mu L p=m):∃x p',Ov d5 p=some ((x,p',()),())∧Ok L 5 2 p x p':=by
 have hs:=hL.small;have tn:=N3;have ln:([]:b5Y).length=0:=rfl;have hlt:=h.lt;have hb:=o9 p;obtain⟨t,ht,ht2⟩:=X7 h;rw[b21,mL,ht,d6];obtain⟨b,h1,h2⟩:=E6 h [118,97,114];rw[h1,d6];cases b with
 |true=>have hg:=(h2 rfl).1;obtain⟨p1,g1,s1⟩:=I7 hL h [118,97,114];obtain⟨t',p2,g2,s2,s2w,s2l⟩:=It hL s1.pi 1 (by decide);obtain⟨p3,g3,s3⟩:=I7 hL s2.pi [58];obtain⟨k,p4,g4,s4⟩:=iA hL _ p3 s3.pi rfl;obtain⟨p5,g5,s5⟩:=I7 hL s4.pi [61];obtain⟨x,p6,g6,s6⟩:=Jx hL s5.pi;obtain⟨p7,g7,s7⟩:=I7 hL s6.pi [59];have s1a:=s1.le;have s1b:=s1.mono;have s1c:=s1.stay;have s1d:=s1.go;have s1e:=o9 p1;have s1f:=s1.pi.lt;have s1t:=u7 L s1.le;have s2a:=s2.le;have s2b:=s2.mono;have s2c:=s2.stay;have s2d:=s2.go;have s2e:=o9 p2;have s2f:=s2.pi.lt;have s2t:=u7 L s2.le;have s3a:=s3.le;have s3b:=s3.mono;have s3c:=s3.stay;have s3d:=s3.go;have s3e:=o9 p3;have s3f:=s3.pi.lt;have s3t:=u7 L s3.le;have s4a:=s4.le;have s4b:=s4.mono;have s4c:=s4.stay;have s4d:=s4.go;have s4e:=o9 p4;have s4f:=s4.pi.lt;have s4g:=s4.sz;have s4h:=s4.ne;have s4t:=u7 L s4.le;have s4x:=s4.tx;have s5a:=s5.le;have s5b:=s5.mono;have s5c:=s5.stay;have s5d:=s5.go;have s5e:=o9 p5;have s5f:=s5.pi.lt;have s5t:=u7 L s5.le;have s6a:=s6.le;have s6b:=s6.mono;have s6c:=s6.stay;have s6d:=s6.go;have s6e:=o9 p6;have s6f:=s6.pi.lt;have s6g:=s6.sz;have s6h:=s6.ne;have s6t:=u7 L s6.le;have s6x:=s6.tx;have s7a:=s7.le;have s7b:=s7.mono;have s7c:=s7.stay;have s7d:=s7.go;have s7e:=o9 p7;have s7f:=s7.pi.lt;have s7t:=u7 L s7.le;have hz:k.length+x.length≤50000000:=(by omega);obtain⟨y,k1,hy,hyt⟩:=Cp k x hz;have hz2:y.length≤50000000:=(by omega);obtain⟨z,k2,hz3,hz3t⟩:=J0 7 t t'.Gs 0 y hz2 (K3 h ht2);rw[i7,g1,d6,g2,d6,g3,d6,g4,d6,g5,d6,g6,d6,k1,d6,k2,d6,g7];exact⟨z,p7,rfl,s7.pi,by omega,by omega,fun h=>by omega,fun h=>by omega,by omega,by omega,fun h=>by omega⟩
 |false=>
 rw[i5];obtain⟨b,h1,h2⟩:=E6 h [105,102];rw[h1,d6];cases b with
 |true=>
  have hg:=(h2 rfl).1;obtain⟨p1,g1,s1⟩:=I7 hL h [105,102];have s1a:=s1.le;have s1b:=s1.mono;have s1c:=s1.stay;have s1d:=s1.go;have s1e:=o9 p1;have s1f:=s1.pi.lt;have s1t:=u7 L s1.le;obtain⟨x,p2,g2,s2⟩:=Jx hL s1.pi;have s2a:=s2.le;have s2b:=s2.mono;have s2c:=s2.stay;have s2d:=s2.go;have s2e:=o9 p2;have s2f:=s2.pi.lt;have s2g:=s2.sz;have s2h:=s2.ne;have s2t:=u7 L s2.le;have s2x:=s2.tx;obtain⟨y,p3,g3,s3⟩:=hB p2 s2.pi (by have:=Cv h s2.pi hg (by omega);omega);have s3a:=s3.le;have s3b:=s3.mono;have s3c:=s3.stay;have s3d:=s3.go;have s3e:=o9 p3;have s3f:=s3.pi.lt;have s3g:=s3.sz;have s3h:=s3.ne;have s3t:=u7 L s3.le;have s3x:=s3.tx;have hz:x.length+y.length≤50000000:=(by omega);obtain⟨z,k1,hz1,hz1t⟩:=Cp x y hz;obtain⟨b,h3,h4⟩:=E6 s3.pi [101,108,115,101];rw[i7,g1,d6,g2,d6,g3,d6,k1,d6,h3,d6];cases b with
  |true=>obtain⟨p4,g4,s4⟩:=I7 hL s3.pi [101,108,115,101];have s4a:=s4.le;have s4b:=s4.mono;have s4c:=s4.stay;have s4d:=s4.go;have s4e:=o9 p4;have s4f:=s4.pi.lt;have s4t:=u7 L s4.le;obtain⟨w,p5,g5,s5⟩:=hB p4 s4.pi (by have:=Cv h s4.pi hg (by omega);omega);have s5a:=s5.le;have s5b:=s5.mono;have s5c:=s5.stay;have s5d:=s5.go;have s5e:=o9 p5;have s5f:=s5.pi.lt;have s5g:=s5.sz;have s5h:=s5.ne;have s5t:=u7 L s5.le;have s5x:=s5.tx;have hz2:z.length+w.length≤50000000:=(by omega);obtain⟨u,k2,hu,hut⟩:=Cp z w hz2;have hz3:u.length≤50000000:=(by omega);obtain⟨v,k3,hv,hvt⟩:=J0 9 t [] 0 u hz3 (K3 h ht2);rw[i7,g4,d6,g5,d6,k2,d6,a0e,Zx,k3];exact⟨v,p5,rfl,s5.pi,by omega,by omega,fun h=>by omega,fun h=>by omega,by omega,by omega,fun h=>by omega⟩
  |false=>have hz3:z.length≤50000000:=(by omega);obtain⟨v,k3,hv,hvt⟩:=J0 9 t [] 0 z hz3 (K3 h ht2);rw[i5,a0e,Zx,k3];exact⟨v,p3,rfl,s3.pi,by omega,by omega,fun h=>by omega,fun h=>by omega,by omega,by omega,fun h=>by omega⟩
 |false=>
 rw[i5];obtain⟨b,h1,h2⟩:=E6 h [119,104,105,108,101];rw[h1,d6];cases b with
 |true=>have hg:=(h2 rfl).1;obtain⟨p1,g1,s1⟩:=I7 hL h [119,104,105,108,101];have s1a:=s1.le;have s1b:=s1.mono;have s1c:=s1.stay;have s1d:=s1.go;have s1e:=o9 p1;have s1f:=s1.pi.lt;have s1t:=u7 L s1.le;obtain⟨x,p2,g2,s2⟩:=Jx hL s1.pi;have s2a:=s2.le;have s2b:=s2.mono;have s2c:=s2.stay;have s2d:=s2.go;have s2e:=o9 p2;have s2f:=s2.pi.lt;have s2g:=s2.sz;have s2h:=s2.ne;have s2t:=u7 L s2.le;have s2x:=s2.tx;obtain⟨y,p3,g3,s3⟩:=hB p2 s2.pi (by have:=Cv h s2.pi hg (by omega);omega);have s3a:=s3.le;have s3b:=s3.mono;have s3c:=s3.stay;have s3d:=s3.go;have s3e:=o9 p3;have s3f:=s3.pi.lt;have s3g:=s3.sz;have s3h:=s3.ne;have s3t:=u7 L s3.le;have s3x:=s3.tx;have hz:x.length+y.length≤50000000:=(by omega);obtain⟨z,k1,hz1,hz1t⟩:=Cp x y hz;have hz3:z.length≤50000000:=(by omega);obtain⟨v,k3,hv,hvt⟩:=J0 10 t [] 0 z hz3 (K3 h ht2);rw[i7,g1,d6,g2,d6,g3,d6,k1,d6,k3];exact⟨v,p3,rfl,s3.pi,by omega,by omega,fun h=>by omega,fun h=>by omega,by omega,by omega,fun h=>by omega⟩
 |false=>
 rw[i5];obtain⟨b,h1,h2⟩:=E6 h [114,101,116,117,114,110];rw[h1,d6];cases b with
 |true=>
  have hg:=(h2 rfl).1;obtain⟨p1,g1,s1⟩:=I7 hL h [114,101,116,117,114,110];have s1a:=s1.le;have s1b:=s1.mono;have s1c:=s1.stay;have s1d:=s1.go;have s1e:=o9 p1;have s1f:=s1.pi.lt;have s1t:=u7 L s1.le;obtain⟨b,h3,h4⟩:=E6 s1.pi [59];rw[i7,g1,d6,h3,d6];cases b with
  |true=>obtain⟨v,k3,hv,hvt⟩:=J0 11 t [] 0 [] (by simp) (K3 h ht2);obtain⟨p2,g2,s2⟩:=I7 hL s1.pi [59];have s2a:=s2.le;have s2b:=s2.mono;have s2c:=s2.stay;have s2d:=s2.go;have s2e:=o9 p2;have s2f:=s2.pi.lt;have s2t:=u7 L s2.le;simp only[I0]at hv;rw[x4,i5,NP,Sg,k3,d6,g2];exact⟨v,p2,rfl,s2.pi,by omega,by omega,fun h=>by omega,fun h=>by omega,by omega,by omega,fun h=>by omega⟩
  |false=>obtain⟨x,p2,g2,s2⟩:=Jx hL s1.pi;have s2a:=s2.le;have s2b:=s2.mono;have s2c:=s2.stay;have s2d:=s2.go;have s2e:=o9 p2;have s2f:=s2.pi.lt;have s2g:=s2.sz;have s2h:=s2.ne;have s2t:=u7 L s2.le;have s2x:=s2.tx;obtain⟨p3,g3,s3⟩:=I7 hL s2.pi [59];have s3a:=s3.le;have s3b:=s3.mono;have s3c:=s3.stay;have s3d:=s3.go;have s3e:=o9 p3;have s3f:=s3.pi.lt;have s3t:=u7 L s3.le;have hz:x.length≤50000000:=(by omega);obtain⟨v,k3,hv,hvt⟩:=J0 11 t [] 0 x hz (K3 h ht2);rw[D3,i7,g2,d6,NP,Sg,k3,d6,g3];exact⟨v,p3,rfl,s3.pi,by omega,by omega,fun h=>by omega,fun h=>by omega,by omega,by omega,fun h=>by omega⟩
 |false=>
 rw[i5];obtain⟨b,h1,h2⟩:=E6 h [112,114,105,110,116];rw[h1,d6];cases b with
 |true=>have hg:=(h2 rfl).1;obtain⟨p1,g1,s1⟩:=I7 hL h [112,114,105,110,116];have s1a:=s1.le;have s1b:=s1.mono;have s1c:=s1.stay;have s1d:=s1.go;have s1e:=o9 p1;have s1f:=s1.pi.lt;have s1t:=u7 L s1.le;obtain⟨x,p2,g2,s2⟩:=Jx hL s1.pi;have s2a:=s2.le;have s2b:=s2.mono;have s2c:=s2.stay;have s2d:=s2.go;have s2e:=o9 p2;have s2f:=s2.pi.lt;have s2g:=s2.sz;have s2h:=s2.ne;have s2t:=u7 L s2.le;have s2x:=s2.tx;obtain⟨p3,g3,s3⟩:=I7 hL s2.pi [59];have s3a:=s3.le;have s3b:=s3.mono;have s3c:=s3.stay;have s3d:=s3.go;have s3e:=o9 p3;have s3f:=s3.pi.lt;have s3t:=u7 L s3.le;have hz:x.length≤50000000:=(by omega);obtain⟨v,k3,hv,hvt⟩:=J0 12 t [] 0 x hz (K3 h ht2);rw[i7,g1,d6,g2,d6,k3,d6,g3];exact⟨v,p3,rfl,s3.pi,by omega,by omega,fun h=>by omega,fun h=>by omega,by omega,by omega,fun h=>by omega⟩
 |false=>
 rw[i5];obtain⟨x,p1,g1,s1⟩:=Jx hL h;have s1a:=s1.le;have s1b:=s1.mono;have s1c:=s1.stay;have s1d:=s1.go;have s1e:=o9 p1;have s1f:=s1.pi.lt;have s1g:=s1.sz;have s1h:=s1.ne;have s1t:=u7 L s1.le;have s1x:=s1.tx;have hx0:0<x.length:=(by omega);have hx1:i6 x 0=some x[0]:=l7 (i:=0) hx0;have hz:x.length≤50000000:=(by omega);have j4:∀q,PI L q→iN p1≤iN q→bn p1≤bn q→(bn p1=1→iN q=iN p1)→∃x1 p',Xd d5 ((x,p1,()),()) q ((t,()),())=some ((x1,p',()),())∧Ok L 5 2 p x1 p':=by intro q hq e1 e2 e3;have e1t:=u7 L e1;obtain⟨v,k3,hv,hvt⟩:=J0 13 t [] 0 x hz (K3 h ht2);obtain⟨p3,g3,s3⟩:=I7 hL hq [59];have s3a:=s3.le;have s3b:=s3.mono;have s3c:=s3.stay;have s3d:=s3.go;have s3e:=o9 p3;have s3f:=s3.pi.lt;have s3t:=u7 L s3.le;simp only[a9b,sB];rw[k3,d6,g3];exact⟨v,p3,rfl,s3.pi,by omega,by omega,fun h=>by omega,fun h=>by omega,by omega,by omega,fun h=>by omega⟩
 have j3:∃x1 p',sF d5 ((x,p1,()),()) ((t,()),())=some ((x1,p',()),())∧Ok L 5 2 p x1 p':=by obtain⟨p2,g2,s2,s3⟩:=Jd s1.pi 5 (by decide);have s2a:=s2.le;have s2b:=s2.mono;have s2c:=s2.stay;have s2d:=s2.go;have s2e:=o9 p2;have s2f:=s2.pi.lt;have s2t:=u7 L s2.le;obtain⟨x1,p',q1,q2⟩:=j4 p2 s2.pi (by omega) (by omega) (fun h=>by omega);simp only[b1c,vR];rw[g2,d6];exact⟨x1,p',q1,q2⟩
 have j2:bn p1=0→∃x1 p',aN d5 ((x,p1,()),()) ((t,()),())=some ((x1,p',()),())∧Ok L 5 2 p x1 p':=by intro hgood;obtain⟨p2,g2,s2⟩:=I7 hL s1.pi [61];have s2a:=s2.le;have s2b:=s2.mono;have s2c:=s2.stay;have s2d:=s2.go;have s2e:=o9 p2;have s2f:=s2.pi.lt;have s2t:=u7 L s2.le;obtain⟨y,p3,g3,s3⟩:=Jx hL s2.pi;have s3a:=s3.le;have s3b:=s3.mono;have s3c:=s3.stay;have s3d:=s3.go;have s3e:=o9 p3;have s3f:=s3.pi.lt;have s3g:=s3.sz;have s3h:=s3.ne;have s3t:=u7 L s3.le;have s3x:=s3.tx;have hz1:x.length+y.length≤50000000:=(by omega);obtain⟨z,k1,hz2,hz2t⟩:=Cp x y hz1;have hz3:z.length≤50000000:=(by omega);obtain⟨v,k3,hv,hvt⟩:=J0 8 t [] 0 z hz3 (K3 h ht2);obtain⟨p4,g4,s4⟩:=I7 hL s3.pi [59];have s4a:=s4.le;have s4b:=s4.mono;have s4c:=s4.stay;have s4d:=s4.go;have s4e:=o9 p4;have s4f:=s4.pi.lt;have s4t:=u7 L s4.le;simp only[b1w,fY];rw[g2,d6,g3,d6,k1,d6,k3,d6,g4];exact⟨v,p4,rfl,s4.pi,by omega,by omega,fun h=>by omega,fun h=>by omega,by omega,by omega,fun h=>by omega⟩
 have j5:∃x1 p',rI d5 ((x,p1,()),()) x[0] ((t,()),())=some ((x1,p',()),())∧Ok L 5 2 p x1 p':=by
  obtain⟨b,h3,h4⟩:=E6 s1.pi [61];obtain⟨b2,h5,h6⟩:=E6 s1.pi [59];have e:=j4 p1 s1.pi (i8 _) (i8 _) (fun _=>rfl);simp only[b0G,tJ];rw[h3,d6];cases b with
  |true=>exact j3
  |false=>
   rw[i5,h5,d6];cases b2 with
   |false=>exact e
   |true=>
    rw[i7];cases decide (x[0].Ks=27)with
    |true=>exact e
    |false=>exact j3
 obtain⟨b,h3,h4⟩:=E6 s1.pi [61];rw[g1,d6,hx1,d6,h3,d6];cases b with
 |false=>exact j5
 |true=>
  have hgood:=(h4 rfl).1;rw[i7];cases decide (x[0].Ks=26)with
  |true=>exact j2 hgood
  |false=>
   rw[i5];cases decide (x[0].Ks=28)with
   |true=>exact j2 hgood
   |false=>
    rw[i5];cases decide (x[0].Ks=29)with
    |true=>exact j2 hgood
    |false=>exact j5
theorem a2d{L:List o4}(hL:Tk L):∀(m:Nat) (p:l3),PI L p→mu L p=m→(∃x p',Ov d5 p=some ((x,p',()),())∧Ok L 5 2 p x p')∧∃x p',Ei d5 p=some ((x,p',()),())∧Ok L 3 1 p x p':=by
 intro m
 induction m using Nat.strongRecOn with
 |_ m ih=>
 intro p h hm;exact⟨a1T hL (fun q hq hl=>(ih _ hl q hq rfl).2) h hm,b5e hL (fun q hq hl=>(ih _ hl q hq rfl).1) h hm⟩
theorem b0T{L:List o4}(hL:Tk L){p:l3}(h:PI L p):∃x p',Ei d5 p=some ((x,p',()),())∧Ok L 3 1 p x p':=(a2d hL _ p h rfl).2
structure Lq(L:List o4)(i0 k b:Nat)(q:l3)(c:List d7)(x:List d7)(p':l3):Prop where
 pi:PI L p'
 le:iN q≤iN p'
 mono:bn q≤bn p'
 stay:bn q=1→iN p'=iN q∧x.length≤c.length+k
 sz:x.length≤10*(iN p'-i0)+8*bn p'+k
 ne:1≤x.length
 tx:bn p'=0→D1 x+tl L i0≤tl L (iN p')+b
theorem a6X{L:List o4}(hL:Tk L)(t:RT5)(w:J3)(htl:pl t.1.1.Ls=0)(i0:Nat):∀(n:Nat) (q:l3) (c:List d7),mu L q=n→PI L q→i0≤iN q→c.length≤10*(iN q-i0)+4*bn q→(bn q=0→D1 c+tl L i0≤tl L (iN q))→∃x p',wY d5 q t w c=some ((x,p',()),())∧Lq L i0 1 w.1.1.Gs.length q c x p':=by
 intro n;have hs:=hL.small;have tn:=N3;have ln:([]:b5Y).length=0:=rfl
 induction n using Nat.strongRecOn with
 |_ n ih=>
 intro q c hn h h0 hc hct;have hlt:=h.lt;have hb:=o9 q;have fin:∃x p',oU d5 q t w c=some ((x,p',()),())∧Lq L i0 1 w.1.1.Gs.length q c x p':=by have hz:c.length≤50000000:=(by omega);obtain⟨y,g0,hy,hyt⟩:=J0 2 t.1.1 w.1.1.Gs 0 c hz htl;obtain⟨p1,g1,s1⟩:=Ey hL h [125];rw[a23,lC,g0,d6,g1];have s1a:=s1.le;have s1b:=s1.mono;have s1c:=s1.stay;have s1d:=s1.go;have s1e:=o9 p1;have s1f:=s1.pi.lt;have s1t:=u7 L s1.le;exact⟨y,p1,rfl,s1.pi,by omega,by omega,fun h=>by omega,by omega,by omega,fun h=>by omega⟩
 rw[a6y,lZ,Dl];by_cases cb:bn q=1
 ·rw[f9 cb];exact fin
 ·rw[d8 cb];simp only[d6,D3,i7];obtain⟨b,h1,h2⟩:=E6 h [125];rw[h1,d6];cases b with
  |true=>exact fin
  |false=>obtain⟨x,p1,g1,s1⟩:=SK hL h 3;have s1a:=s1.le;have s1b:=s1.mono;have s1c:=s1.stay;have s1d:=s1.go;have s1e:=o9 p1;have s1f:=s1.pi.lt;have s1g:=s1.sz;have s1h:=s1.ne;have s1t:=u7 L s1.le;have s1x:=s1.tx;obtain⟨p2,g2,s2⟩:=I7 hL s1.pi [59];have s2a:=s2.le;have s2b:=s2.mono;have s2c:=s2.stay;have s2d:=s2.go;have s2e:=o9 p2;have s2f:=s2.pi.lt;have s2t:=u7 L s2.le;have hz:c.length+x.length≤100000000:=(by omega);rw[D3,i7,g1,d6,g2,d6,J9 (by decide) hz,d6];have hlt3:=Cv h s2.pi (by omega) (by omega);obtain⟨x',p',r,o⟩:=ih _ (by omega) p2 (c++x) rfl s2.pi (by omega) (by rw[o5];omega) (fun h=>by rw[Km];omega);have oa:=o.le;have ob:=o.mono;have oc:=o.stay;exact⟨x',p',r,o.pi,by omega,by omega,fun h=>by omega,o.sz,o.ne,o.tx⟩
theorem a91{L:List o4}(hL:Tk L){p:l3}(h:PI L p):∃x p',JW d5 p=some ((x,p',()),())∧Ok L 9 1 p x p':=by have hs:=hL.small;have tn:=N3;have ln:([]:b5Y).length=0:=rfl;have hlt:=h.lt;have hb:=o9 p;obtain⟨t,ht,ht2⟩:=X7 h;obtain⟨p1,g1,s1⟩:=I7 hL h [114,101,99];obtain⟨w,p2,g2,s2,s2w,s2l⟩:=It hL s1.pi 2 (by decide);obtain⟨p3,g3,s3⟩:=Dg hL s2.pi [123];have s1a:=s1.le;have s1b:=s1.mono;have s1c:=s1.stay;have s1d:=s1.go;have s1e:=o9 p1;have s1f:=s1.pi.lt;have s1t:=u7 L s1.le;have s2a:=s2.le;have s2b:=s2.mono;have s2c:=s2.stay;have s2d:=s2.go;have s2e:=o9 p2;have s2f:=s2.pi.lt;have s2t:=u7 L s2.le;have s3a:=s3.le;have s3b:=s3.mono;have s3c:=s3.stay;have s3d:=s3.go;have s3e:=o9 p3;have s3f:=s3.pi.lt;have s3t:=u7 L s3.le;obtain⟨x,p',r,o⟩:=a6X hL ((t,()),()) ((w,p2,()),()) (K3 h ht2) (iN p3) _ p3 [] rfl s3.pi (i8 _) (by simp) (fun h=>by omega);have oa:=o.le;have ob:=o.mono;have oc:=o.stay;have od:=o.sz;have oe:=o.ne;have of:=o9 p';have ot:=o.tx;simp only at ot;simp only[I0]at oc;rw[b3h,oI,ht,d6,g1,d6,g2,d6,g3,d6];exact⟨x,p',r,o.pi,by omega,by omega,fun h=>by omega,fun h=>by omega,by omega,by omega,fun h=>by omega⟩
theorem TE{L:List o4}(hL:Tk L)(a:Int)(t:RT5)(w:J3)(htl:pl t.1.1.Ls=0){q:l3}(h:PI L q)(e f:List d7)(he:e.length+f.length≤20000000):∃x p',jX d5 a q t w e f=some ((x,p',()),())∧∃y,Ok L 3 1 q y p'∧x.length=e.length+f.length+y.length+1∧D1 x=w.1.1.Gs.length+(D1 e+D1 f+D1 y):=by have hs:=hL.small;have tn:=N3;have ln:([]:b5Y).length=0:=rfl;have hlt:=h.lt;obtain⟨y,p1,g1,s1⟩:=b0T hL h;have s1a:=s1.le;have s1b:=s1.mono;have s1c:=s1.stay;have s1d:=s1.go;have s1e:=o9 p1;have s1f:=s1.pi.lt;have s1g:=s1.sz;have s1h:=s1.ne;have s1t:=u7 L s1.le;have s1x:=s1.tx;have hz1:e.length+f.length≤50000000:=(by omega);obtain⟨u,k1,hu,hut⟩:=Cp e f hz1;have hz2:u.length+y.length≤50000000:=(by omega);obtain⟨v,k2,hv,hvt⟩:=Cp u y hz2;have hz3:v.length≤50000000:=(by omega);obtain⟨z,k3,hz,hzt⟩:=J0 4 t.1.1 w.1.1.Gs a v hz3 htl;rw[b03,gX,g1,d6,k1,d6,k2,d6,k3];exact⟨z,p1,rfl,y,s1,by omega,by omega⟩
set_option maxHeartbeats 2000000 in
theorem b2Q{L:List o4}(hL:Tk L)(t:RT5)(w:J3)(htl:pl t.1.1.Ls=0)(i0:Nat):∀(n:Nat) (a:Int) (q:l3) (c:List d7),mu L q=n→PI L q→i0≤iN q→c.length≤10*(iN q-i0)+4*bn q→(bn q=0→D1 c+tl L i0≤tl L (iN q))→∃x p',vZ d5 a q t w c=some ((x,p',()),())∧Lq L i0 9 w.1.1.Gs.length q c x p':=by
 intro n;have hs:=hL.small;have tn:=N3;have ln:([]:b5Y).length=0:=rfl
 induction n using Nat.strongRecOn with
 |_ n ih=>
 intro a q c hn h h0 hc hct;have hlt:=h.lt;have hb:=o9 q;have fin:∃x p',mQ d5 a q t w c=some ((x,p',()),())∧Lq L i0 9 w.1.1.Gs.length q c x p':=by
  obtain⟨p1,g1,s1⟩:=Ey hL h [41];have s1a:=s1.le;have s1b:=s1.mono;have s1c:=s1.stay;have s1d:=s1.go;have s1e:=o9 p1;have s1f:=s1.pi.lt;have s1t:=u7 L s1.le;obtain⟨b,h1,h2⟩:=E6 s1.pi [58];rw[b2J,bQ,g1,d6,h1,d6];cases b with
  |true=>obtain⟨p2,g2,s2⟩:=I7 hL s1.pi [58];have s2a:=s2.le;have s2b:=s2.mono;have s2c:=s2.stay;have s2d:=s2.go;have s2e:=o9 p2;have s2f:=s2.pi.lt;have s2t:=u7 L s2.le;obtain⟨k,p3,g3,s3⟩:=iA hL _ p2 s2.pi rfl;have s3a:=s3.le;have s3b:=s3.mono;have s3c:=s3.stay;have s3d:=s3.go;have s3e:=o9 p3;have s3f:=s3.pi.lt;have s3g:=s3.sz;have s3h:=s3.ne;have s3t:=u7 L s3.le;have s3x:=s3.tx;have hz:c.length+k.length≤20000000:=(by omega);obtain⟨x,p',g4,y,s4,hy,hyt⟩:=TE hL a t w htl s3.pi c k hz;have s4a:=s4.le;have s4b:=s4.mono;have s4c:=s4.stay;have s4d:=s4.go;have s4e:=o9 p';have s4f:=s4.pi.lt;have s4g:=s4.sz;have s4h:=s4.ne;have s4t:=u7 L s4.le;have s4x:=s4.tx;rw[i7,g2,d6,g3,d6];have hg:=(h2 rfl).1;exact⟨x,p',g4,s4.pi,by omega,by omega,fun h=>by omega,by omega,by omega,fun h=>by omega⟩
  |false=>have hz:c.length+ [(d7.mk 14 0 0 0 0 ([]:b5Y))].length≤20000000:=(by rw[y4];omega);obtain⟨x,p',g4,y,s4,hy,hyt⟩:=TE hL a t w htl s1.pi c [(d7.mk 14 0 0 0 0 ([]:b5Y))] hz;have s4a:=s4.le;have s4b:=s4.mono;have s4c:=s4.stay;have s4d:=s4.go;have s4e:=o9 p';have s4f:=s4.pi.lt;have s4g:=s4.sz;have s4h:=s4.ne;have s4t:=u7 L s4.le;have s4x:=s4.tx;rw[y4]at hy;rw[IX]at hyt;simp only at hyt;have pl0:pl 0=0:=if_pos (by decide);rw[i5];exact⟨x,p',g4,s4.pi,by omega,by omega,fun h=>by omega,by omega,by omega,fun h=>by omega⟩
 rw[a9q,sX,Dl];by_cases cb:bn q=1
 ·rw[f9 cb];exact fin
 ·rw[d8 cb];simp only[d6,D3,i7];obtain⟨b,h1,h2⟩:=E6 h [41];rw[h1,d6];cases b with
  |true=>exact fin
  |false=>
   have body:∀q1,PI L q1→iN q≤iN q1→bn q≤bn q1→∃x p',kG d5 a q1 t w c=some ((x,p',()),())∧Lq L i0 9 w.1.1.Gs.length q c x p':=by intro q1 hq1 k1 k2;obtain⟨x,p2,g2,s2⟩:=SK hL hq1 5;have s2a:=s2.le;have s2b:=s2.mono;have s2c:=s2.stay;have s2d:=s2.go;have s2e:=o9 p2;have s2f:=s2.pi.lt;have s2g:=s2.sz;have s2h:=s2.ne;have s2t:=u7 L s2.le;have s2x:=s2.tx;have hb1:=o9 q1;have hq1lt:=hq1.lt;have kt:=u7 L k1;have hz:c.length+x.length≤100000000:=(by omega);rw[b4X,tF,g2,d6,J9 (by decide) hz,d6];have hlt3:=Cv h s2.pi (by omega) (by omega);obtain⟨x',p',r,o⟩:=ih _ (by omega) (w64 (a+1)) p2 (c++x) rfl s2.pi (by omega) (by rw[o5];omega) (fun h=>by rw[Km];omega);have oa:=o.le;have ob:=o.mono;have oc:=o.stay;exact⟨x',p',r,o.pi,by omega,by omega,fun h=>by omega,o.sz,o.ne,o.tx⟩
   rw[D3,i7];cases decide (a>0)with
   |false=>exact body q h (i8 _) (i8 _)
   |true=>obtain⟨p1,g1,s1⟩:=I7 hL h [44];rw[i7,g1,d6];exact body p1 s1.pi s1.le s1.mono
theorem a2A{L:List o4}(hL:Tk L){p:l3}(h:PI L p):∃x p',HJ d5 p=some ((x,p',()),())∧Ok L 17 9 p x p':=by have hs:=hL.small;have tn:=N3;have ln:([]:b5Y).length=0:=rfl;have hlt:=h.lt;have hb:=o9 p;obtain⟨t,ht,ht2⟩:=X7 h;obtain⟨p1,g1,s1⟩:=I7 hL h [102,110];obtain⟨w,p2,g2,s2,s2w,s2l⟩:=It hL s1.pi 1 (by decide);obtain⟨p3,g3,s3⟩:=Dg hL s2.pi [40];have s1a:=s1.le;have s1b:=s1.mono;have s1c:=s1.stay;have s1d:=s1.go;have s1e:=o9 p1;have s1f:=s1.pi.lt;have s1t:=u7 L s1.le;have s2a:=s2.le;have s2b:=s2.mono;have s2c:=s2.stay;have s2d:=s2.go;have s2e:=o9 p2;have s2f:=s2.pi.lt;have s2t:=u7 L s2.le;have s3a:=s3.le;have s3b:=s3.mono;have s3c:=s3.stay;have s3d:=s3.go;have s3e:=o9 p3;have s3f:=s3.pi.lt;have s3t:=u7 L s3.le;obtain⟨x,p',r,o⟩:=b2Q hL ((t,()),()) ((w,p2,()),()) (K3 h ht2) (iN p3) _ 0 p3 [] rfl s3.pi (i8 _) (by simp) (fun h=>by omega);have oa:=o.le;have ob:=o.mono;have oc:=o.stay;have od:=o.sz;have oe:=o.ne;have of:=o9 p';have ot:=o.tx;simp only at ot;simp only[I0]at oc;rw[b1b,lQ,ht,d6,g1,d6,g2,d6,g3,d6];exact⟨x,p',r,o.pi,by omega,by omega,fun h=>by omega,fun h=>by omega,by omega,by omega,fun h=>by omega⟩
theorem b4x{L:List o4}(hL:Tk L):∀(n:Nat) (q:l3) (c:List d7),mu L q=n→PI L q→c.length≤10*iN q+20*bn q→(bn q=0→D1 c≤tl L (iN q))→∃x p',bO d5 q c=some ((x,p',()),())∧PI L p'∧1≤x.length∧x.length≤10*iN p'+21∧(bn p'=0→D1 x≤tl L (iN p')):=by
 intro n;have hs:=hL.small;have tn:=N3;have ln:([]:b5Y).length=0:=rfl
 induction n using Nat.strongRecOn with
 |_ n ih=>
 intro q c hn h hc hct;have hlt:=h.lt;have hb:=o9 q;have fin:∃x p',uS d5 q c=some ((x,p',()),())∧PI L p'∧1≤x.length∧x.length≤10*iN p'+21∧(bn p'=0→D1 x≤tl L (iN p')):=by have hz:c.length≤50000000:=(by omega);obtain⟨y,g0,hy,hyt⟩:=J0 1 (o4.mk 0 1 1 0 ([]:b5Y)) [] 0 c hz (if_pos (by decide));rw[a7I,sZ,g0];exact⟨y,q,rfl,h,by omega,by omega,fun h=>by omega⟩
 have body:∀(p1:l3) (x:List d7),bn q=0→PI L p1→iN q≤iN p1→(bn p1=1∨iN q<iN p1)→x.length≤10*(iN p1-iN q)+20*bn p1→(bn p1=0→D1 x+tl L (iN q)≤tl L (iN p1))→∃x' p',aU d5 p1 c x=some ((x',p',()),())∧PI L p'∧1≤x'.length∧x'.length≤10*iN p'+21∧(bn p'=0→D1 x'≤tl L (iN p')):=by intro p1 x hg hp k1 k2 k3 k4;have hb1:=o9 p1;have hl1:=hp.lt;have hz:c.length+x.length≤100000000:=(by omega);rw[a6x,gK,J9 (by decide) hz,d6];have hlt3:=Cv h hp hg k2;exact ih _ (by omega) p1 (c++x) rfl hp (by rw[o5];omega) (fun h=>by rw[Km];have:=hct hg;have:=k4 h;omega)
 rw[a7j,gH,Dl];by_cases cb:bn q=1
 ·rw[f9 cb];exact fin
 ·have hg:bn q=0:=(by omega);obtain⟨t,ht,ht2⟩:=X7 h;rw[d8 cb];simp only[d6,D3,i7];rw[ht];simp only[d6];by_cases c8:t.Ks=8
  ·rw[f9 c8];exact fin
  rw[d8 c8,D3,i7];obtain⟨b,h1,h2⟩:=E6 h [114,101,99];rw[h1,d6];cases b with
  |true=>obtain⟨x,p1,g1,s1⟩:=a91 hL h;have s1a:=s1.le;have s1b:=s1.mono;have s1c:=s1.stay;have s1d:=s1.go;have s1e:=o9 p1;have s1f:=s1.pi.lt;have s1g:=s1.sz;have s1h:=s1.ne;have s1t:=u7 L s1.le;have s1x:=s1.tx;rw[i7,g1,d6];exact body p1 x hg s1.pi (by omega) (by omega) (by omega) s1x
  |false=>
   obtain⟨b,h1,h2⟩:=E6 h [102,110];rw[i5,h1,d6];cases b with
   |true=>obtain⟨x,p1,g1,s1⟩:=a2A hL h;have s1a:=s1.le;have s1b:=s1.mono;have s1c:=s1.stay;have s1d:=s1.go;have s1e:=o9 p1;have s1f:=s1.pi.lt;have s1g:=s1.sz;have s1h:=s1.ne;have s1t:=u7 L s1.le;have s1x:=s1.tx;rw[i7,g1,d6];exact body p1 x hg s1.pi (by omega) (by omega) (by omega) s1x
   |false=>obtain⟨p1,g1,s1,hb1⟩:=Jd h 5 (by decide);have s1a:=s1.le;have s1b:=s1.mono;have s1c:=s1.stay;have s1d:=s1.go;have s1e:=o9 p1;have s1f:=s1.pi.lt;have s1t:=u7 L s1.le;rw[i5,g1,d6];exact body p1 [] hg s1.pi (by omega) (by omega) (by simp) (fun h=>by omega)
theorem a6Z{L:List o4}(x:List d7){p:l3}(h:PI L p):∃y f,yP d5 x p=some ((y,f,()),())∧(y=x∧bn p=0∨y=[]):=by
 obtain⟨t,ht,ht2⟩:=X7 h;have j0:∀q,bn p≤bn q→∃y f,fV d5 x q=some ((y,f,()),())∧(y=x∧bn p=0∨y=[]):=by
  intro q hpq;rw[a5R,vX,Dl];have hbq:=o9 q;by_cases c:bn q=1
  ·rw[f9 c];exact⟨_,_,rfl,.inr rfl⟩
  ·rw[d8 c];exact⟨_,_,rfl,.inl ⟨rfl,by omega⟩⟩
 rw[a4u,wW,ht];simp only[d6];cases decide (t.Ks=8)with
 |true=>exact j0 p (i8 _)
 |false=>obtain⟨p1,g1,s1,hb1⟩:=Jd h 5 (by decide);rw[D3,i7,g1];exact j0 p1 s1.mono
theorem b3s{s:b5Y}{L:List o4}{f:y6}(hT:dH d5 s=some ((L,f,()),()))(hL:f.Code=0→Tk L∧0<L.length∧∀t∈L,pl t.Ls=0):∃x f',fR d5 s=some ((x,f',()),())∧x.length≤10*L.length+21∧D1 x≤tl L L.length:=by
 rw[a4j,cN,hT];simp only[d6];by_cases c:f.Code=0
 ·rw[f9 c];obtain⟨h1,h2,h3⟩:=hL c;obtain⟨x,p,g1,hp,hx,hx2,hx3⟩:=b4x h1 _ ⟨L,0,0,⟨0,0,0⟩⟩ [] rfl ⟨rfl,rfl,h2,h3⟩ (by simp) (fun _=>by rw[N3];exact C8 _);obtain⟨y,f',g2,hy⟩:=a6Z x hp;have hlt:=hp.lt;rw[x4,i5,b2v,mK,g1,d6,g2];refine⟨y,f',rfl,?_⟩;have hm:=u7 L (Nat.le_of_lt hlt);rcases hy with⟨rfl,hb⟩|rfl
  ·exact⟨by omega,by have:=hx3 hb;omega⟩
  ·exact⟨by simp,by rw[N3];omega⟩
 ·rw[d8 c];exact⟨_,_,rfl,by simp,by rw[N3];omega⟩
theorem W5{p:Prop} [Decidable p](h:p):okP p=some ():=if_pos h
theorem z8{i:Nat}(h:i≤1000000000000):w64 ((i:Int)+1)=((i+1:Nat):Int):=by rw[wrap64 (by omega) (by omega)];omega
theorem OB(s:b5Y)(hs:s.length≤65536):∀(m i:Nat) (c:Bool),s.length-i=m→i≤s.length→∃k:Nat,Du d5 s (i:Int) c=some (((k:Int),()),())∧i≤k∧k≤s.length:=by
 intro m
 induction m with
 |zero=>intro i c hm hi;rw[VV,Qb1,d8 (by omega),a9I,Qb4];exact⟨i,rfl,by omega,by omega⟩
 |succ m ih=>
  intro i c hm hi;have hil:i<s.length:=(by omega);have next:∀c',∃k:Nat,Du d5 s ((i+1:Nat):Int) c'=some (((k:Int),()),())∧i≤k∧k≤s.length:=fun c'=>by obtain⟨k,h1,h2,h3⟩:=ih (i+1) c' (by omega) (by omega);exact⟨k,h1,by omega,h3⟩
  have j1:∀c',∃k:Nat,tZ d5 s (i:Int) c' s[i]=some (((k:Int),()),())∧i≤k∧k≤s.length:=by
   intro c';rw[a2h,Qb2,z8 (by omega)];cases c' with
   |true=>exact next true
   |false=>
    rw[D3,i7];cases decide ((s[i].toNat:Int)=32)with
    |true=>exact next false
    |false=>
     rw[D3,i7];cases decide ((s[i].toNat:Int)=9)with
     |true=>exact next false
     |false=>
      rw[D3,i7];cases decide ((s[i].toNat:Int)=13)with
      |true=>exact next false
      |false=>
       rw[D3,i7];cases decide ((s[i].toNat:Int)=10)with
       |true=>exact next false
       |false=>exact⟨i,rfl,by omega,by omega⟩
  have j2:∀c',∃k:Nat,iB d5 s (i:Int) c' s[i]=some (((k:Int),()),())∧i≤k∧k≤s.length:=by
   intro c';rw[a1v,Qb3];cases decide ((s[i].toNat:Int)=10)with
   |true=>exact j1 false
   |false=>exact j1 c'
  rw[VV,Qb1,f9 (by omega),i7,l7 hil,d6];cases decide ((s[i].toNat:Int)=35)with
  |true=>exact j2 true
  |false=>exact j2 c
theorem a25(s:b5Y)(n:Nat)(hn:n≤s.length)(hs:s.length≤65536):∀(m i:Nat) (c d:Int),n-i=m→0≤c→c≤i+1→i≤n→∃x y,Qn d5 s (n:Int) c d (i:Int)=some ((x,y,()),())∧0≤x∧x≤(n:Int)+1:=by
 intro m
 induction m with
 |zero=>intro i c d hm h0 h1 h2;rw[WQ,Qb6,d8 (by omega),b1r,Qb7];exact⟨_,_,rfl,h0,by omega⟩
 |succ m ih=>
  intro i c d hm h0 h1 h2;have hil:i<s.length:=(by omega);have e1:w64 (c+1)=c+1:=wrap64 (by omega) (by omega);rw[WQ,Qb6,f9 (by omega),i7,l7 hil,d6,z8 (by omega)];cases decide ((s[i].toNat:Int)=10)with
  |true=>exact ih (i+1) _ _ (by omega) (by omega) (by omega) (by omega)
  |false=>exact ih (i+1) _ _ (by omega) (by omega) (by omega) (by omega)
theorem DZ(a:Int):∃k:Int,Hd d5 a=some ((k,()),())∧0≤k∧k≤3:=by
 have j2:∃k:Int,rN d5=some ((k,()),())∧0≤k∧k≤3:=⟨0,a5c,by omega,by omega⟩;have j0:∃k:Int,mW d5 a=some ((k,()),())∧0≤k∧k≤3:=by
  rw[b3T,Qb9];cases decide (a≥48)with
  |false=>exact j2
  |true=>
   rw[i7];cases decide (a≤57)with
   |false=>exact j2
   |true=>exact⟨3,rfl,by omega,by omega⟩
 have j1:∃k:Int,Ym d5 a=some ((k,()),())∧0≤k∧k≤3:=by
  rw[a9g,tX];cases decide (a≥65)with
  |false=>exact j0
  |true=>
   rw[i7];cases decide (a≤90)with
   |false=>exact j0
   |true=>exact⟨2,rfl,by omega,by omega⟩
 have j3:∃k:Int,(cond (decide (a=95)) (some ((1,()),())) ((Ym d5 a)))=some ((k,()),())∧0≤k∧k≤3:=by
  cases decide (a=95)with
  |false=>exact j1
  |true=>exact⟨1,rfl,by omega,by omega⟩
 rw[b2S,Qb8];cases decide (a≥97)with
 |false=>exact j3
 |true=>
  rw[i7];cases decide (a≤122)with
  |false=>exact j3
  |true=>exact⟨1,rfl,by omega,by omega⟩
theorem PH(s:b5Y)(hs:s.length≤65536):∀(m i:Nat),s.length-i=m→i≤s.length→∃k:Nat,lG d5 s (i:Int)=some (((k:Int),()),())∧i≤k∧k≤s.length∧∀(h:i<s.length) (q:Int),Hd d5 (s[i].toNat:Int)=some ((q,()),())→0<q→i<k:=by
 intro m
 induction m with
 |zero=>intro i hm hi;rw[a02,bK,d8 (by omega),OV,Rq];exact⟨i,rfl,by omega,by omega,fun h=>by omega⟩
 |succ m ih=>
  intro i hm hi;have hil:i<s.length:=(by omega);obtain⟨q,hq,hq0,_⟩:=DZ (s[i].toNat:Int);rw[a02,bK,f9 (by omega),i7,l7 hil,d6,hq,d6,z8 (by omega)];by_cases c:q>0
  ·rw[f9 c,i7];obtain⟨k,h1,h2,h3,_⟩:=ih (i+1) (by omega) (by omega);exact⟨k,h1,by omega,h3,fun _ _ _ _=>by omega⟩
  ·rw[d8 c,i5,OV,Rq];refine⟨i,rfl,by omega,by omega,fun _ q' h1 h2=>?_⟩;rw[hq]at h1;cases h1;omega
theorem b3V(a b:b5Y)(hb:b.length≤65536):∀(m i:Nat) (c:Int),b.length-i=m→∃x y,iQ d5 a b c (i:Int)=some ((x,y,()),()):=by
 intro m
 induction m with
 |zero=>
  intro i c hm;rw[MR,Vp,d8 (by omega),i5,a49,iD];cases decide ((a.length:Int)>(b.length:Int))with
  |false=>exact⟨_,_,rfl⟩
  |true=>rw[i7,a7D,qI,xOf,d6,d6];simp only;rw[b07,qU,b46,d6,d6];simp only;rw[a5o,jH,b0F];exact⟨_,_,rfl⟩
 |succ m ih=>intro i c hm;have hil:i<b.length:=(by omega);rw[MR,Vp,f9 (by omega),i7,l7 hil,d6,z8 (by omega)];exact ih (i+1) _ (by omega)
theorem a7W(a b:b5Y)(hb:b.length≤65536):∃x y,GF d5 a b=some ((x,y,()),()):=by
 have j5:∃x y,fZ d5 a b=some ((x,y,()),()):=by rw[a3B,fB];exact b3V a b hb _ 0 0 rfl
 have j6:∀c,∃x y,sV d5 a b c=some ((x,y,()),()):=by
  intro c;rw[a6t,gU];cases decide ((b.length:Int)>(c.length:Int))with
  |true=>exact⟨_,_,rfl⟩
  |false=>
   rw[i5];cases decide ((b.length:Int)=(c.length:Int))with
   |false=>exact j5
   |true=>
    rw[i7];cases(!(Op.bytesLess b c||decide (b=c)))with
    |true=>exact⟨_,_,rfl⟩
    |false=>exact j5
 rw[b5k,vJ];cases decide ((a.length:Int)>(b.length:Int))with
 |true=>exact j6 _
 |false=>exact j6 _
theorem b3G(a b:b5Y)(hb:b.length≤65536):∀(m i:Nat),b.length-i=m→∃x y,tR d5 a b (i:Int)=some ((x,y,()),()):=by
 intro m
 induction m with
 |zero=>intro i hm;rw[YV,Zg,d8 (by omega),i5];exact a7W a b hb
 |succ m ih=>
  intro i hm;have hil:i<b.length:=(by omega);rw[YV,Zg,f9 (by omega),i7,l7 hil,d6,d6,z8 (by omega)];cases decide ((b[i].toNat:Int)<48)with
  |true=>exact⟨_,_,rfl⟩
  |false=>
   rw[i5];cases decide ((b[i].toNat:Int)>57)with
   |true=>exact⟨_,_,rfl⟩
   |false=>exact ih (i+1) (by omega)
theorem b3U(a:b5Y)(ha:a.length≤65536):∃x y,KJ d5 a=some ((x,y,()),()):=by
 have j2:∀b:b5Y,b.length≤65536→∃x y,Vr d5 a b=some ((x,y,()),()):=by
  intro b hb;have j1:∃x y,jO d5 a b=some ((x,y,()),()):=(by rw[a5F,dA];exact b3G a b hb _ 0 rfl);rw[a6O,nH];by_cases c:(b.length:Int)=0
  ·rw[f9 c];exact⟨_,_,rfl⟩
  ·have h0:0<b.length:=(by omega);rw[d8 c,i5,show i6 b 0=some b[0]from l7 (i:=0) h0,d6];cases decide ((b[0].toNat:Int)=48)with
   |false=>exact j1
   |true=>
    rw[i7];cases decide ((a.length:Int)>1)with
    |true=>exact⟨_,_,rfl⟩
    |false=>exact j1
 rw[a7R,mP];by_cases c:(a.length:Int)>0
 ·have h0:0<a.length:=(by omega);rw[f9 c,i7,show i6 a 0=some a[0]from l7 (i:=0) h0,d6];cases decide ((a[0].toNat:Int)=45)with
  |false=>exact j2 a ha
  |true=>rw[i7,W5 (show B9 1 (a.length:Int) (a.length:Int)from⟨by omega,by omega,N0 _⟩),d6];exact j2 _ (by rw[(Gb a 1 a.length ⟨by omega,by omega,N0 _⟩).1];omega)
 ·rw[d8 c];exact j2 a ha
def Ho(n i:Nat)(r:b5U):Prop:=∃(bs:b5Y) (k:Int) (ok:Bool),r=some ((bs,k,ok,()),())∧(ok=true→∃kn:Nat,k=(kn:Int)∧i<kn∧kn≤n∧bs.length≤kn)
theorem Ho.mono{n i j:Nat}{r:b5U}(h:Ho n j r)(hij:i≤j):Ho n i r:=by obtain⟨bs,k,ok,h1,h2⟩:=h;exact⟨bs,k,ok,h1,fun h=>by obtain⟨kn,e1,e2,e3,e4⟩:=h2 h;exact⟨kn,e1,by omega,e3,e4⟩⟩
theorem Ba(n i:Nat)(bs:b5Y)(k:Int):Ho n i (some ((bs,k,false,()),())):=⟨_,_,_,rfl,fun h=>nomatch h⟩
theorem WO(a:Int)(h0:0≤a)(h1:a<256):∃v,Rk d5 a=some ((v,()),()):=by
 have j2:∃v,mZ d5=some ((v,()),()):=⟨_,a5t⟩;have j0:∃v,qG d5 a=some ((v,()),()):=by
  rw[a3I,vB];cases decide (a≥65)with
  |false=>exact j2
  |true=>
   rw[i7];cases decide (a≤70)with
   |false=>exact j2
   |true=>exact⟨_,rfl⟩
 have j1:∃v,eK d5 a=some ((v,()),()):=by
  rw[a3X,eM];cases decide (a≥97)with
  |false=>exact j0
  |true=>
   rw[i7];cases decide (a≤102)with
   |false=>exact j0
   |true=>exact⟨_,rfl⟩
 rw[a81,nC];cases decide (a≥48)with
 |false=>exact j1
 |true=>
  rw[i7];cases decide (a≤57)with
  |false=>exact j1
  |true=>exact⟨_,rfl⟩
theorem b5h(n:Int):0≤IntKind.wrap .u8 n∧IntKind.wrap .u8 n<256:=by have:IntKind.wrap .u8 n=n%256:=rfl;omega
theorem SB{c:List Int}(h:∀x∈c,0≤x∧x<256):Xm c=some ():=if_pos h
theorem b4s{c:List Int}(h:∀x∈c,0≤x∧x<256)(y:Int)(hy:0≤y∧y<256):∀x∈c++[y],0≤x∧x<256:=by
 intro x hx;rcases z0.1 hx with hx|hx
 ·exact h x hx
 ·rw[I2.1 hx];exact hy
theorem Ly(x:UInt8):0≤(x.toNat:Int)∧(x.toNat:Int)<256:=by have:=x.toNat_lt;omega
theorem a45(s:b5Y)(hs:s.length≤65536):∀(m i:Nat) (c:List Int),s.length-i=m→(∀x∈c,0≤x∧x<256)→c.length≤i→Ho s.length i (pH d5 s (i:Int) c):=by
 intro m
 induction m using Nat.strongRecOn with
 |_ m ih=>
 intro i c hm hc hl;rw[a27,iV];by_cases ci:i<s.length
 ·have e1:=z8 (i:=i) (by omega);have go:∀(j:Nat) (y:Int),i≤j→j≤65600→0≤y∧y<256→Ho s.length i ((A4 1 c ([y]:List Int)).bind fun e=>Iu d5 s (j:Int) e):=by
   intro j y hij hj hy;have hz:c.length+ [y].length≤100000000:=(by rw[y4];omega);rw[J9 (by decide) hz,d6,b5z,uT,z8 (by omega)];by_cases cj:s.length-(j+1)<m
   ·exact(ih _ cj (j+1) _ rfl (b4s hc y hy) (by rw[o5,y4];omega)).mono (by omega)
   ·omega
  rw[f9 (by omega),i7,l7 ci,d6,e1];cases decide ((s[i].toNat:Int)<32)with
  |true=>exact Ba _ _ _ _
  |false=>
  rw[i5];cases decide ((s[i].toNat:Int)>126)with
  |true=>exact Ba _ _ _ _
  |false=>
  rw[i5];cases decide ((s[i].toNat:Int)=34)with
  |true=>rw[i7,SB hc];exact⟨_,_,_,rfl,fun _=>⟨i+1,rfl,by omega,by omega,by unfold y7;rw[H2];omega⟩⟩
  |false=>
  rw[i5];cases decide ((s[i].toNat:Int)=92)with
  |false=>exact go i _ (i8 _) (by omega) (Ly _)
  |true=>
  rw[x4,i5];by_cases c1:i+1<s.length
  ·rw[d8 (by omega),i5,l7 c1,d6];have j1:Ho s.length i (rD d5 s (i:Int) c):=by rw[a5C,vP,e1,l7 c1,d6];exact go (i+1) _ (by omega) (by omega) (Ly _)
   cases decide ((s[i+1].toNat:Int)=34)with
   |true=>exact j1
   |false=>
   rw[i5];cases decide ((s[i+1].toNat:Int)=92)with
   |true=>exact j1
   |false=>
   rw[i5];cases decide ((s[i+1].toNat:Int)=110)with
   |true=>exact go (i+1) 10 (by omega) (by omega) (by decide)
   |false=>
   rw[i5];cases decide ((s[i+1].toNat:Int)=116)with
   |true=>exact go (i+1) 9 (by omega) (by omega) (by decide)
   |false=>
   rw[i5];cases decide ((s[i+1].toNat:Int)=120)with
   |false=>exact Ba _ _ _ _
   |true=>
    rw[i7];have e2:w64 (((i+1:Nat):Int)+1)=((i+2:Nat):Int):=z8 (by omega);have e3:w64 (((i+1:Nat):Int)+2)=((i+3:Nat):Int):=(by rw[wrap64 (by omega) (by omega)];omega);have e4:w64 ((1:Int)+1)=2:=rfl;have e5:w64 ((2:Int)+1)=3:=rfl;rw[CU,Ni,f9 (by decide),i7,e1,e2,e4];by_cases c2:i+2<s.length
    ·obtain⟨v,hv⟩:=WO (s[i+2].toNat:Int) (Ly _).1 (Ly _).2;rw[d8 (by omega),i5,l7 c2,d6,hv,d6];cases decide (v<0)with
     |true=>exact Ba _ _ _ _
     |false=>
     rw[i5,CU,Ni,f9 (by decide),i7,e1,e3,e5];by_cases c3:i+3<s.length
     ·obtain⟨u,hu⟩:=WO (s[i+3].toNat:Int) (Ly _).1 (Ly _).2;rw[d8 (by omega),i5,l7 c3,d6,hu,d6];cases decide (u<0)with
      |true=>exact Ba _ _ _ _
      |false=>
      rw[i5,CU,Ni,d8 (by decide),i5,a3i,kF,e1,e2,e3,l7 c2,d6,hv,d6,l7 c3,d6,hu,d6];exact go (i+3) _ (by omega) (by omega) (b5h _)
     ·rw[f9 (by omega)];exact Ba _ _ _ _
    ·rw[f9 (by omega)];exact Ba _ _ _ _
  ·rw[f9 (by omega)];exact Ba _ _ _ _
 ·rw[d8 (by omega),i5,a5r,pD];exact Ba _ _ _ _
theorem a5J(s:b5Y)(hs:s.length≤65536):Ho s.length 0 (CG d5 s):=by
 rw[a5w,fC];by_cases c:(s.length:Int)=0
 ·rw[f9 c];exact Ba _ _ _ _
 ·have h0:0<s.length:=(by omega);rw[d8 c,i5,show i6 s 0=some s[0]from l7 (i:=0) h0,d6];cases decide ((s[0].toNat:Int)=34)with
  |false=>exact Ba _ _ _ _
  |true=>rw[x4,i5];exact(a45 s hs _ 1 [] rfl (fun x hx=>nomatch hx) (by simp)).mono (by omega)
def Ab(n i:Nat)(r:b5O):Prop:=∃(t:o4) (k e:Int),r=some ((t,k,e,()),())∧(e=0→∃kn:Nat,k=(kn:Int)∧i<kn∧kn≤n∧t.Gs.length+i≤kn)
theorem Tb(n i:Nat)(t:o4)(k e:Int)(he:e≠0):Ab n i (some ((t,k,e,()),())):=⟨_,_,_,rfl,fun h=>absurd h he⟩
theorem Ld(n i k:Nat)(t:o4)(h1:i<k)(h2:k≤n)(h3:t.Gs.length+i≤k):Ab n i (some ((t,(k:Int),0,()),())):=⟨_,_,_,rfl,fun _=>⟨k,rfl,h1,h2,h3⟩⟩
theorem EH(s:b5Y)(hs:s.length≤65536)(i b c d:Nat)(hbc:b≤c)(hc:c≤s.length)(hd:i<d)(hd2:d≤s.length)(e f:Int):Ab s.length i (nD d5 s (b:Int) (c:Int) (((d:Int),()),()) e f):=by
 have hcut:B9 (b:Int) (c:Int) (s.length:Int):=⟨by omega,by omega,by omega⟩;obtain⟨x,y,h1⟩:=b3U (x8 s (b:Int) (c:Int)) (by rw[(Gb s b c hcut).1];omega);rw[a7C,dG,W5 hcut,d6,h1,d6];cases decide (y=0)with
 |false=>exact Tb _ _ _ _ _ (by decide)
 |true=>
  rw[x4,i5];cases decide (x>e)with
  |true=>exact Tb _ _ _ _ _ (by decide)
  |false=>exact Ld _ _ _ _ hd hd2 (by simp;omega)
theorem b4E(s:b5Y)(hs:s.length≤65536)(i c d:Nat)(hc:c≤s.length)(hd:i<d)(hd2:d≤s.length)(e f:Int):∀(m b:Nat),c-b=m→b≤c→Ab s.length i (pE d5 s (b:Int) (c:Int) (((d:Int),()),()) e f):=by
 intro m
 induction m with
 |zero=>intro b hm hb;rw[PT,Zq,wrap64 (by omega) (by omega),d8 (by omega)];exact EH s hs i b c d hb hc hd hd2 e f
 |succ m ih=>
  intro b hm hb;rw[PT,Zq,wrap64 (n:=(c:Int)-1) (by omega) (by omega)];by_cases c1:(b:Int)<(c:Int)-1
  ·have hbl:b<s.length:=(by omega);rw[f9 c1,i7,l7 hbl,d6,z8 (by omega)];cases decide ((s[b].toNat:Int)=48)with
   |true=>exact ih (b+1) (by omega) (by omega)
   |false=>exact EH s hs i b c d hb hc hd hd2 e f
  ·rw[d8 c1];exact EH s hs i b c d hb hc hd hd2 e f
theorem b41(s:b5Y)(hs:s.length≤65536)(i:Nat)(hi:i<s.length)(hk:Hd d5 (s[i].toNat:Int)=some ((3,()),())):∀(m c:Nat),s.length-c=m→i≤c→c≤s.length→Ab s.length i (xB d5 s (i:Int) (c:Int)):=by
 intro m;have j1:∀c:Nat,i<c→c≤s.length→Ab s.length i (nY d5 s (i:Int) (c:Int)):=by
  intro c hic hcl;obtain⟨k,g1,g2,g3,g4⟩:=PH s hs _ c rfl hcl;have j3:∀e f:Int,Ab s.length i (jK d5 s (i:Int) (c:Int) (((k:Int),()),()) e f):=by intro e f;rw[b1Y,pG];exact b4E s hs i c k hcl (by omega) g3 e f _ i rfl (by omega)
  have j4:Ab s.length i (nV d5 s (i:Int) (c:Int) (((k:Int),()),())):=by
   rw[b2b,kN];simp only;cases decide ((k:Int)=(c:Int))with
   |false=>exact Tb _ _ _ _ _ (by decide)
   |true=>exact j3 _ _
  rw[a9m,cD,LG,Vm,g1,d6,z8 (by omega)];by_cases ck:k=c+1
  ·have hcl2:c<s.length:=(by omega);rw[f9 (by simp only;omega),i7,l7 hcl2,d6];cases decide ((s[c].toNat:Int)=105)with
   |true=>exact j3 _ _
   |false=>exact j4
  ·rw[d8 (by simp only;omega)];exact j4
 induction m with
 |zero=>intro c hm hic hcl;rw[OG,Sp,d8 (by omega)];exact j1 c (by omega) hcl
 |succ m ih=>
  intro c hm hic hcl;have hc:c<s.length:=(by omega);obtain⟨q,hq,_⟩:=DZ (s[c].toNat:Int);rw[OG,Sp,f9 (by omega),i7,l7 hc,d6,hq,d6,z8 (by omega)];by_cases c3:q=3
  ·rw[f9 c3];exact ih (c+1) (by omega) (by omega) (by omega)
  ·rw[d8 c3];refine j1 c ?_ hcl;by_cases e:i=c
   ·subst e;rw[hk]at hq;cases hq;exact absurd rfl c3
   ·omega
theorem b2C(a:b5Y)(W:List (b5Y))(hW:W.length≤1000)(hd:W=([([114,101,99]:b5Y),([102,110]:b5Y),([118,97,114]:b5Y),([105,102]:b5Y),([101,108,115,101]:b5Y),([119,104,105,108,101]:b5Y),([114,101,116,117,114,110]:b5Y),([112,114,105,110,116]:b5Y),([116,114,117,101]:b5Y),([102,97,108,115,101]:b5Y),([110,105,108]:b5Y),([109,97,107,101]:b5Y),([105,110,116]:b5Y),([98,111,111,108]:b5Y),([115,116,114]:b5Y),([99,111,109,112]:b5Y)]:List (b5Y))):∀(m i:Nat),W.length-i=m→∃b,oB d5 a (i:Int)=some ((b,()),()):=by
 intro m
 induction m with
 |zero=>intro i hm;rw[YG,Tx,←hd,d8 (by omega),a85,nP];exact⟨_,rfl⟩
 |succ m ih=>
  intro i hm;have hi:i<W.length:=(by omega);have e:=ih (i+1) (by omega);rw[YG,Tx,←hd,f9 (by omega),i7,l7 hi,d6,B8,p8 hi,d6,z8 (by omega)];cases decide (W[i]=a)with
  |true=>exact⟨_,rfl⟩
  |false=>exact e
theorem a3l(a:b5Y):∃b,HO d5 a=some ((b,()),()):=by rw[b36,xC];exact b2C a _ (by decide) rfl _ 0 rfl
theorem a7n(s:b5Y)(hs:s.length≤65536)(i:Nat)(hi:i<s.length)(G:b5Y)(hG:G.length≤1000)(hd:G=([43,45,42,47,37,60,62,33,61,40,41,123,125,91,93,44,59,58,46]:b5Y)):∀(m c:Nat),G.length-c=m→Ab s.length i (eQ d5 s (i:Int) (c:Int)):=by
 intro m
 induction m with
 |zero=>intro c hm;rw[LQ,Xk,←hd,d8 (by omega),b2j,pL];exact Tb _ _ _ _ _ (by decide)
 |succ m ih=>
  intro c hm;have hc:c<G.length:=(by omega);have e:=ih (c+1) (by omega);rw[LQ,Xk,←hd,f9 (by omega),i7,l7 hi,d6,l7 hc,d6,z8 (by omega)];cases decide ((s[i].toNat:Int)=(G[c].toNat:Int))with
  |false=>exact e
  |true=>rw[i7,W5 (show B9 (c:Int) ((c+1:Nat):Int) (G.length:Int)from⟨by omega,by omega,by omega⟩),d6,z8 (by omega)];have hl:=(Gb G (c:Int) ((c+1:Nat):Int) ⟨by omega,by omega,by omega⟩).1;exact Ld _ _ _ _ (by omega) (by omega) (by simp only;omega)
theorem b18(s:b5Y)(hs:s.length≤65536)(i:Nat)(hi:i<s.length)(V:List (b5Y))(hV:V.length≤1000)(hV2:∀v∈V,v.length≤2)(hd:V=([([38,38]:b5Y),([124,124]:b5Y),([61,61]:b5Y),([33,61]:b5Y),([60,61]:b5Y),([62,61]:b5Y)]:List (b5Y))):∀(m c:Nat),V.length-c=m→Ab s.length i (Xr d5 s (i:Int) (c:Int)):=by
 have e2:w64 ((i:Int)+2)=((i+2:Nat):Int):=(by rw[wrap64 (by omega) (by omega)];omega);intro m
 induction m with
 |zero=>intro c hm;rw[VF,Xq,←hd,d8 (by omega),i5,a2u,rZ];exact a7n s hs i hi _ (by decide) rfl _ 0 rfl
 |succ m ih=>
  intro c hm;have hc:c<V.length:=(by omega);have e:=ih (c+1) (by omega);rw[VF,Xq,←hd,f9 (by omega),i7,e2,z8 (i:=c) (by omega)];by_cases c2:((i+2:Nat):Int)≤(s.length:Int)
  ·rw[f9 c2,i7,W5 (show B9 (i:Int) ((i+2:Nat):Int) (s.length:Int)from⟨by omega,by omega,c2⟩),d6,l7 hc,d6,B8,p8 hc,d6];cases decide (x8 s (i:Int) ((i+2:Nat):Int)=V[c])with
   |false=>exact e
   |true=>rw[i7,d6,d6];have hl:=hV2 _ (y5 hc);exact Ld _ _ _ _ (by omega) (by omega) (by simp only;omega)
  ·rw[d8 c2];exact e
theorem ZN(s:b5Y)(hs:s.length≤65536)(i:Nat)(hi:i<s.length):Ab s.length i (Wd d5 s (i:Int)):=by
 obtain⟨q,hq,hq0,hq3⟩:=DZ (s[i].toNat:Int);have j0:0<q→Ab s.length i (oZ d5 s (i:Int)):=by
  intro hp;obtain⟨k,g1,g2,g3,g4⟩:=PH s hs _ i rfl (by omega);have hik:=g4 hi q hq hp;have hcut:B9 (i:Int) (k:Int) (s.length:Int):=⟨by omega,by omega,by omega⟩;obtain⟨b,hb⟩:=a3l (x8 s (i:Int) (k:Int));rw[a8D,uW,LG,Vm,g1,d6,W5 hcut,d6,l7 hi,d6,hq,d6];have hcl:=(Gb s (i:Int) (k:Int) hcut).1;cases decide (q=2)with
  |true=>exact Ld _ _ _ _ hik g3 (by simp only;omega)
  |false=>
   rw[i5,hb,d6];cases b with
   |true=>exact Ld _ _ _ _ hik g3 (by simp only;omega)
   |false=>exact Ld _ _ _ _ hik g3 (by simp only;omega)
 rw[b1K,cF,l7 hi,d6,hq,d6];by_cases c1:q=1
 ·rw[f9 c1];exact j0 (by omega)
 by_cases c2:q=2
 ·rw[d8 c1,i5,f9 c2];exact j0 (by omega)
 rw[d8 c1,i5,d8 c2,i5];by_cases c3:q=3
 ·rw[f9 c3,i7,b1n,iS];subst c3;obtain⟨t,k,e,h1,h2⟩:=b41 s hs i hi hq _ i rfl (i8 _) (by omega);rw[h1];exact⟨t,k,e,rfl,h2⟩
 rw[d8 c3,i5,d6];cases decide ((s[i].toNat:Int)=34)with
 |false=>exact b18 s hs i hi _ (by decide) (by decide) rfl _ 0 rfl
 |true=>
  have hcut:B9 (i:Int) (s.length:Int) (s.length:Int):=⟨by omega,by omega,N0 _⟩;have hcl:=(Gb s (i:Int) (s.length:Int) hcut).1;obtain⟨bs,k,ok,h1,h2⟩:=a5J (x8 s (i:Int) (s.length:Int)) (by rw[hcl];omega);rw[i7,W5 hcut,d6,h1,d6];cases ok with
  |false=>exact Tb _ _ _ _ _ (by decide)
  |true=>obtain⟨kn,rfl,e1,e2,e4⟩:=h2 rfl;have e3:w64 ((i:Int)+(kn:Int))=((i+kn:Nat):Int):=(by rw[wrap64 (by omega) (by omega)];omega);simp only[x4,i5,e3];exact Ld _ _ _ _ (by omega) (by omega) (by simp only;omega)
def ts(l:List o4):Nat:=(l.map fun t=>t.Gs.length).sum
theorem MC(l:List o4)(t:o4):ts (l++[t])=ts l+t.Gs.length:=by unfold ts;rw[F9,Ri];simp
theorem b1x(l:List o4):tl l l.length=ts l:=by unfold tl ts;rw[List.take_length]
def tln(L:List o4):Prop:=∀t∈L,pl t.Ls=0
theorem a0L{L:List o4}(h:tln L)(t:o4)(ht:pl t.Ls=0):tln (L++[t]):=fun x hx=>by
 rcases z0.1 hx with h1|h1
 ·exact h x h1
 ·rw[I2.1 h1];exact ht
theorem b4N(s:b5Y)(hs:s.length≤65536):∀(m b c:Nat) (d e:Int) (l:List o4),s.length-b=m→b≤s.length→c≤b→l.length≤b→ts l≤b→0≤d→d≤c+1→tln l→∃L f,vF d5 s (b:Int) (c:Int) d e l=some ((L,f,()),())∧(f.Code=0→Tk L∧0<L.length∧tln L)∧L.length≤s.length+1∧ts L≤s.length:=by
 intro m
 induction m using Nat.strongRecOn with
 |_ m ih=>
 intro b c d e l hm hb hcb hl hlt hd0 hd1 hln;have hcut:B9 (c:Int) (s.length:Int) (s.length:Int):=⟨by omega,by omega,N0 _⟩;have hcl:=(Gb s (c:Int) (s.length:Int) hcut).1;have e0:w64 ((b:Int)-(c:Int))=((b-c:Nat):Int):=(by rw[wrap64 (by omega) (by omega)];omega);obtain⟨x,y,hp,x0,x1⟩:=a25 (x8 s (c:Int) (s.length:Int)) (b-c) (by rw[hcl];omega) (by rw[hcl];omega) _ 0 1 1 rfl (by omega) (by omega) (by omega);have j1:∀d e:Int,0≤d→d≤b+1→∃L f,wZ d5 s (b:Int) d e l=some ((L,f,()),())∧(f.Code=0→Tk L∧0<L.length∧tln L)∧L.length≤s.length+1∧ts L≤s.length:=by
  intro d e hd0 hd1;have hpl:pl d=0:=if_pos ⟨hd0,by omega⟩;rw[a1E,gG];by_cases cb:(b:Int)≥(s.length:Int)
  ·have hz:l.length+ [(o4.mk 8 d e 0 ([]:b5Y))].length≤100000000:=(by rw[y4];omega);rw[f9 cb,i7,J9 (by decide) hz];refine⟨_,_,rfl,fun _=>⟨⟨fun i t hi hi2=>?_,?_⟩,?_,a0L hln _ hpl⟩,?_,by rw[MC];simp;omega⟩
   ·rw[o5,y4]at hi2;have:i=l.length:=(by omega);subst this;rw[Ci (i8 _),Rf]at hi;cases hi;rfl
   all_goals rw[o5,y4];omega
  ·have hbl:b<s.length:=(by omega);obtain⟨t,k,er,h1,h2⟩:=ZN s hs b hbl;rw[d8 cb,i5,h1,d6];by_cases ce:er=0
   ·obtain⟨kn,rfl,k1,k2,k3⟩:=h2 ce;have hz:l.length+ [(o4.mk t.Ks d e t.Ns t.Gs)].length≤100000000:=(by rw[y4];omega);obtain⟨j,g1,g2,g3⟩:=OB s hs _ kn false rfl k2;rw[f9 ce,x4,i5,J9 (by decide) hz,d6,PX,Qb0];simp only;rw[g1,d6];exact ih _ (by omega) j b d e _ rfl g3 (by omega) (by rw[o5,y4];omega) (by rw[MC];simp only;omega) hd0 (by omega) (a0L hln _ hpl)
   ·rw[d8 ce];exact⟨_,_,rfl,fun h=>absurd h ce,by simp,by unfold ts;simp⟩
 rw[b0O,eP,W5 hcut,d6,e0,b15,Qb5,show Qn d5 (x8 s (c:Int) (s.length:Int)) ((b-c:Nat):Int) 1 1 0=_ from hp,d6];have e9:w64 (d+w64 (x-1))=d+x-1:=(by rw[wrap64 (n:=x-1) (by omega) (by omega),wrap64 (by omega) (by omega)];omega);by_cases cx:x>1
 ·rw[f9 cx];exact j1 _ _ (by show 0≤w64 (d+w64 (x-1));rw[e9];omega) (by show w64 (d+w64 (x-1))≤_;rw[e9];omega)
 ·rw[d8 cx];exact j1 _ _ hd0 (by omega)
theorem a8X(s:b5Y):∃L f,dH d5 s=some ((L,f,()),())∧(f.Code=0→Tk L∧0<L.length∧tln L)∧L.length≤s.length+1∧ts L≤s.length:=by
 rw[a26,fL];by_cases c:(s.length:Int)>65536
 ·rw[f9 c];exact⟨_,_,rfl,fun h=>absurd h (by decide),by simp,by unfold ts;simp⟩
 ·have hs:s.length≤65536:=(by omega);obtain⟨k,g1,g2,g3⟩:=OB s hs _ 0 false rfl (C8 _);rw[d8 c,i5,PX,Qb0,show Du d5 s 0 false=_ from g1,d6];exact b4N s hs _ k 0 1 1 [] rfl g3 (C8 _) (C8 _) (by unfold ts;simp) (by omega) (by omega) (fun t ht=>nomatch ht)
theorem a97(s:b5Y):∃x f,fR d5 s=some ((x,f,()),())∧x.length≤10*s.length+31∧D1 x≤s.length:=by obtain⟨L,f,h1,h2,h3,h4⟩:=a8X s;obtain⟨x,f',g1,g2,g3⟩:=b3s h1 h2;rw[b1x]at g3;exact⟨x,f',g1,by omega,by omega⟩
theorem uU{x:List d7}{n:d7}(h:n∈x):n.Gs.length+pl n.Ls≤D1 x:=by
 induction x with
 |nil=>exact nomatch h
 |cons a l ih=>
  rw[IX];rcases D4.1 h with rfl|h
  ·omega
  ·have:=ih h;omega
theorem a9X{z:Int}(h:pl z≤1000000):0≤z∧z≤100000:=by
 unfold pl at h;by_cases c:0≤z∧z≤100000
 ·exact c
 ·rw[if_neg c]at h;omega
end
section
inductive WFo(l:List d7):Nat→Nat→Prop
 |nil(i:Nat):WFo l i i
 |cons(i k j:Nat)(x:d7)(hx:l[i]? =some x)(hs:x.Cs=(k:Int)-(i+1))(hk:i+1≤k)(kids:WFo l (i+1) k)(rest:WFo l k j):WFo l i j
theorem WFo.le{l:List d7}{i j:Nat}(h:WFo l i j):i≤j:=by
 induction h with
 |nil=>exact i8 _
 |cons i k j x hx hs hk _ _ _ ih=>omega
theorem WFo.inside{l:List d7}{i j:Nat}(h:WFo l i j):∀p,i≤p→p<j→∃(x:d7) (k:Nat),l[p]? =some x∧x.Cs=(k:Int)-(p+1)∧p+1≤k∧WFo l (p+1) k∧k≤j:=by
 induction h with
 |nil=>intro p h1 h2;omega
 |cons i k j x hx hs hk kids rest ih1 ih2=>
  intro p h1 h2;have hkj:=rest.le;by_cases e:p=i
  ·subst e;exact⟨x,k,hx,hs,hk,kids,hkj⟩
  ·by_cases e2:p<k
   ·obtain⟨y,q,g1,g2,g3,g4,g5⟩:=ih1 p (by omega) e2;exact⟨y,q,g1,g2,g3,g4,by omega⟩
   ·exact ih2 p (by omega) h2
inductive Kc(l:List d7):Nat→Nat→List Nat→Prop
 |nil(i:Nat):Kc l i i []
 |cons(i k j:Nat)(x:d7)(ks:List Nat)(hx:l[i]? =some x)(hs:x.Cs=(k:Int)-(i+1))(hk:i+1≤k)(kids:WFo l (i+1) k)(rest:Kc l k j ks):Kc l i j (i::ks)
theorem WFo.kc{l:List d7}{i j:Nat}(h:WFo l i j):∃ks,Kc l i j ks:=by
 induction h with
 |nil i=>exact⟨[],.nil i⟩
 |cons i k j x hx hs hk kids rest ih1 ih2=>obtain⟨ks,h⟩:=ih2;exact⟨i::ks,.cons i k j x ks hx hs hk kids h⟩
theorem Kc.le{l:List d7}{i j:Nat}{ks:List Nat}(h:Kc l i j ks):i+ks.length≤j:=by
 induction h with
 |nil=>simp
 |cons i k j x ks hx hs hk _ _ ih=>rw[F3];omega
theorem Kc.mem{l:List d7}{i j:Nat}{ks:List Nat}(h:Kc l i j ks):∀p∈ks,i≤p∧p<j∧∃(x:d7) (k:Nat),l[p]? =some x∧x.Cs=(k:Int)-(p+1)∧p+1≤k∧k≤j∧WFo l (p+1) k:=by
 induction h with
 |nil=>intro p hp;exact absurd hp (List.not_mem_nil)
 |cons i k j x ks hx hs hk kids rest ih=>
  have:=rest.le;intro p hp;rcases D4.1 hp with rfl|hp
  ·exact⟨i8 _,by omega,x,k,hx,hs,hk,by omega,kids⟩
  ·obtain⟨h1,h2,h3⟩:=ih p hp;exact⟨by omega,h2,h3⟩
section
variable{l:List d7}(hl:l.length≤100000000)
include hl
theorem b1g{a:Nat}{x:d7}{st:Nat}(hs:x.Cs=(st:Int)-(a+1))(hst:st≤l.length)(ha:a<l.length):∀(n k:Nat),l.length-k=n→a<k→k≤l.length→(∀k:Nat,a<k→k≤l.length→∃r:Int,Rb d5 l (k:Int)=some ((r,()),())∧(r= -1∨∃(y:d7) (q:Nat),l[k]? =some y∧y.Cs=(q:Int)-(k+1)∧k+1≤q∧q≤l.length∧r=(q:Int)∧WFo l (k+1) q))→∃r:Int,rX d5 l (a:Int) x (k:Int)=some ((r,()),())∧(r= -1∨r=(st:Int)∧WFo l k st):=by
 have w1:w64 (w64 ((a:Int)+1)+x.Cs)=(st:Int):=(by rw[hs,wrap64 (n:=(a:Int)+1) (by omega) (by omega),wrap64 (by omega) (by omega)];omega);intro n
 induction n using Nat.strongRecOn with
 |_ n ih=>
 intro k hn hak hk IH;rw[UP,Zw,f9 (by omega),i7,w1];by_cases c:(k:Int)<(st:Int)
 ·rw[f9 c,i7];obtain⟨r,g1,g2⟩:=IH k hak hk;rw[g1,d6];rcases g2 with rfl|⟨y,q,q1,q2,q3,q4,rfl,q6⟩
  ·refine⟨-1,?_,.inl rfl⟩;simp only;rw[UP,Zw,d8 (by omega),i5,SJ,Wi,w1,d8 (by omega)];rfl
  ·obtain⟨r,k1,k2⟩:=ih _ (by omega) q rfl (by omega) q4 IH;simp only;refine⟨r,k1,?_⟩;rcases k2 with rfl|⟨rfl,k3⟩
   ·exact .inl rfl
   ·exact .inr ⟨rfl,.cons k q st y q1 q2 q3 q6 k3⟩
 ·rw[d8 c,i5,SJ,Wi,w1];by_cases e:(k:Int)=(st:Int)
  ·rw[f9 e];have:k=st:=(by omega);subst this;exact⟨_,rfl,.inr ⟨rfl,.nil _⟩⟩
  ·rw[d8 e];exact⟨_,rfl,.inl rfl⟩
theorem a2y:∀(n a:Nat),l.length-a=n→a≤l.length→∃r:Int,Rb d5 l (a:Int)=some ((r,()),())∧(r= -1∨∃(y:d7) (q:Nat),l[a]? =some y∧y.Cs=(q:Int)-(a+1)∧a+1≤q∧q≤l.length∧r=(q:Int)∧WFo l (a+1) q):=by
 intro n
 induction n using Nat.strongRecOn with
 |_ n ih=>
 intro a hn ha;rw[a9K,eR];by_cases c:(a:Int)≥(l.length:Int)
 ·rw[f9 c];exact⟨_,rfl,.inl rfl⟩
 have hal:a<l.length:=(by omega);have e0:w64 (w64 ((l.length:Int)-1)-(a:Int))=(l.length:Int)-1-a:=(by rw[wrap64 (n:=(l.length:Int)-1) (by omega) (by omega),wrap64 (by omega) (by omega)]);have e1:w64 ((a:Int)+1)=((a+1:Nat):Int):=(by rw[wrap64 (by omega) (by omega)];omega);rw[d8 c,i5,l7 hal,d6];by_cases c1:l[a].Cs<0
 ·rw[f9 c1];exact⟨_,rfl,.inl rfl⟩
 rw[d8 c1,i5,d6,e0];by_cases c2:l[a].Cs>(l.length:Int)-1-a
 ·rw[f9 c2];exact⟨_,rfl,.inl rfl⟩
 rw[d8 c2,i5,d6,e1];have hs:l[a].Cs=((a+1+l[a].Cs.toNat:Nat):Int)-(a+1):=(by omega);obtain⟨r,g1,g2⟩:=b1g hl hs (by omega) hal _ (a+1) rfl (by omega) (by omega) (fun k h1 h2=>ih _ (by omega) k rfl h2);refine⟨r,g1,?_⟩;rcases g2 with h|⟨h,w⟩
 ·exact .inl h
 ·exact .inr ⟨l[a],_,p8 hal,hs,by omega,by omega,h,w⟩
theorem LI:∃b,oV d5 l=some ((b,()),())∧(b=true→∃x,l[0]? =some x∧x.Cs=(l.length:Int)-1∧1≤l.length∧WFo l 1 l.length):=by
 rw[a78,nQ];by_cases c:(l.length:Int)>0
 ·obtain⟨r,g1,g2⟩:=a2y hl _ 0 rfl (C8 _);rw[f9 c,i7,show Rb d5 l 0=_ from g1];refine⟨_,rfl,fun h=>?_⟩;have h:=D6 h;simp only at h;rcases g2 with h2|⟨y,q,q1,q2,q3,q4,q5,q6⟩
  ·omega
  ·have:q=l.length:=(by omega);subst this;exact⟨y,q1,by omega,by omega,q6⟩
 ·rw[d8 c];exact⟨_,rfl,fun h=>nomatch h⟩
theorem a9x{b:Nat}{x:d7}{st:Nat}(hx:l[b]? =some x)(hs:x.Cs=(st:Int)-(b+1))(hst:st≤l.length){c:Nat}{ks:List Nat}(h:Kc l c st ks):∀d:List Int,d.length+ks.length≤l.length→bU d5 l (b:Int) (c:Int) d=some ((d++ks.map (fun(k:Nat)=>(k:Int)),()),()):=by
 have hbl:b<l.length:=(l9.1 hx).1;have hxe:l[b]=x:=(l9.1 hx).2;have w1:w64 (w64 ((b:Int)+1)+x.Cs)=(st:Int):=by rw[hs,wrap64 (n:=(b:Int)+1) (by omega) (by omega),wrap64 (by omega) (by omega)];omega
 induction h with
 |nil c=>intro d hd;rw[LN,bF,l7 hbl,d6,hxe,w1,d8 (by omega),i5,a6I,gO,List.map_nil,R4]
 |cons c k j y ks hy hys hk kids rest ih=>intro d hd;have hkj:=rest.le;have hcl:c<l.length:=(by omega);have hye:l[c]=y:=(l9.1 hy).2;have e1:w64 (w64 ((c:Int)+1)+y.Cs)=(k:Int):=(by rw[hys,wrap64 (n:=(c:Int)+1) (by omega) (by omega),wrap64 (by omega) (by omega)];omega);rw[F3]at hd;have hz:d.length+ [(c:Int)].length≤100000000:=(by rw[y4];omega);have:=ih hs hst w1 (d++[(c:Int)]) (by rw[o5,y4];omega);rw[LN,bF,l7 hbl,d6,hxe,w1,f9 (by omega),i7,J9 (by decide) hz,d6,l7 hcl,d6,hye,e1,this,List.map_cons,M9];rfl
theorem T8{b:Nat}{x:d7}{st:Nat}(hx:l[b]? =some x)(hs:x.Cs=(st:Int)-(b+1))(hst:st≤l.length){ks:List Nat}(h:Kc l (b+1) st ks):U7 d5 l (b:Int)=some ((ks.map (fun(k:Nat)=>(k:Int)),()),()):=by have:=h.le;have e1:w64 ((b:Int)+1)=((b+1:Nat):Int):=(by rw[wrap64 (by omega) (by omega)];omega);rw[a9Q,dB,e1,a9x hl hx hs hst h [] (by rw[I0];omega),Z9]
end
end
section
def sk0(k:Int):Int:=if k=6 then 98 else if k=5 then 112 else if k=3 then 102 else if k=2 then 100 else if k=4 then 100 else 45
def sk1(k:Int):Int:=if 7≤k∧k≤13 then 115 else sk0 k
def sk2(k:Int):Int:=if 21≤k∧k≤32 then 101 else sk1 k
def F4(k:Int):Int:=if k=14 then 48 else if 15≤k∧k≤20 then 116 else sk2 k
theorem zX{α:Type}(k a b:Int)(x y:α):cond (decide (k≥a)) (cond (decide (k≤b)) x y) y=if a≤k∧k≤b then x else y:=by
 by_cases c:k≥a
 ·rw[f9 c,i7];by_cases d:k≤b
  ·rw[f9 d,if_pos ⟨c,d⟩];rfl
  ·rw[d8 d,if_neg (fun h=>d h.2)];rfl
 ·rw[d8 c,if_neg (fun h=>c h.1)];rfl
theorem b2L(x:d7):zJ d5 x=some ((F4 x.Ks,()),()):=by
 generalize hk:x.Ks=k;have j0:nG d5 x=some ((sk0 k,()),()):=by
  unfold sk0;rw[a1J,bR,a64,rT,hk];simp only[Bool.cond_eq_ite,decide_eq_true_eq]
  repeat' split
  all_goals first|rfl|contradiction
 have j1:rQ d5 x=some ((sk1 k,()),()):=by unfold sk1;rw[a4J,kK,hk,j0,zX];split<;>rfl
 have j2:qV d5 x=some ((sk2 k,()),()):=by unfold sk2;rw[a54,qT,hk,j1,zX];split<;>rfl
 unfold F4;rw[a3y,qZ,hk,j2,zX];by_cases c:k=14
 ·rw[f9 c,if_pos c];rfl
 ·rw[d8 c,if_neg c,i5];split<;>rfl
theorem b2M(k:Int):0≤F4 k∧F4 k<256:=by
 unfold F4 sk2 sk1 sk0
 repeat' split
 all_goals omega
theorem a0O:∀{a b:List Int},(∀x∈a,0≤x∧x<256)→(∀x∈b,0≤x∧x<256)→y7 a=y7 b→a=b
 | [],[],_,_,_=>rfl
 | [],_::_,_,_,h=>by cases h
 |_::_,[],_,_,h=>by cases h
 |x::a,y::b,ha,hb,h=>by
  unfold y7 at h;rw[List.map_cons,List.map_cons]at h;injection h with h1 h2
  have hx:=ha x E2;have hy:=hb y E2;have e:x=y:=by have:=congrArg UInt8.toNat h1;rw[UInt8.toNat_ofNat',UInt8.toNat_ofNat']at this;omega
  rw[e,a0O (fun z hz=>ha z (F7 _ hz)) (fun z hz=>hb z (F7 _ hz)) h2]
theorem GZ{x:Int}(h:0≤x∧x<256):((UInt8.ofNat x.toNat).toNat:Int)=x:=by rw[UInt8.toNat_ofNat'];omega
theorem a5d(S:List Int)(hS:∀x∈S,0≤x∧x<256)(hl:S.length≤100000000)(c:Int):∀(n i:Nat),S.length-i=n→∃b,dL d5 (y7 S) c (i:Int)=some ((b,()),())∧(b=true→∀s∈S.drop i,s=c):=by
 have hbl:(y7 S).length=S.length:=(by unfold y7;rw[H2]);intro n
 induction n with
 |zero=>intro i hn;rw[YL,Tm,hbl,d8 (by omega),i5,a2K,pM,J1 (by omega)];exact⟨_,rfl,fun _ s hs=>nomatch hs⟩
 |succ n ih=>
  intro i hn;have hi:i<S.length:=(by omega);have hi2:i<(y7 S).length:=(by omega);have e1:w64 ((i:Int)+1)=((i+1:Nat):Int):=(by rw[wrap64 (by omega) (by omega)];omega);have e2:((y7 S)[i].toNat:Int)=S[i]:=by have:(y7 S)[i]=UInt8.ofNat S[i].toNat:=(by simp only[y7,List.getElem_map]);rw[this];exact GZ (hS _ (y5 hi))
  obtain⟨b,h1,h2⟩:=ih (i+1) (by omega);rw[YL,Tm,hbl,f9 (by omega),i7,l7 hi2,d6,e1,e2,H5 hi];by_cases h:S[i]=c
  ·rw[f9 h,x4,i5];refine⟨b,h1,fun hb s hs=>?_⟩;rcases D4.1 hs with rfl|hs
   ·exact h
   ·exact h2 hb s hs
  ·rw[d8 h];exact⟨_,rfl,fun h=>nomatch h⟩
theorem YB(S:List Int)(hS:∀x∈S,0≤x∧x<256)(hl:S.length≤100000000)(c:Int):∃b,Lv d5 (y7 S) c=some ((b,()),())∧(b=true→∀s∈S,s=c):=by rw[a71,wD];exact a5d S hS hl c _ 0 rfl
structure Fam(k num:Int)(i:Nat)(S:List Int)(fk:Int):Prop where
 k1:k=1→i=0∧∀s∈S,s=100
 k2:k=2→∀s∈S,s=102
 k3:k=3∨k=5∨k=20→S=[116]
 k4:k=4→∃(P:List Int) (t:Int),S=P++[t,98]∧num=P.length∧(∀s∈P,s=112)∧(t=116∨t=48)
 k6:k=6→∀s∈S,s=115
 k7:k=7→S=[116,101]
 k8:k=8→S=[101,101]∧(fk=26∨fk=28∨fk=29)
 k9:k=9→S=[101,98]∨S=[101,98,98]
 k10:k=10→S=[101,98]
 k11:k=11→S=[]∨S=[101]
 k12:k=12∨k=29∨k=30→S=[101]
 k13:k=13→S=[101]∧fk=27
 k27:k=27→∀s∈S,s=101
 k28:k=28∨k=31→S=[101,101]
 k32:k=32→S=[116]∧fk=19∨S=[116,101]∧fk=20
 kr:(k<1∨(14≤k∧k≤19)∨(21≤k∧k≤26)∨33≤k)→S=[]∧14≤k∧k≤26
theorem a28{S:List Int}(hS:∀x∈S,0≤x∧x<256)(T:List Int)(hT:∀x∈T,0≤x∧x<256){t:b5Y}(ht:t=y7 T):decide (y7 S=t)=decide (S=T):=by
 by_cases h:S=T
 ·subst h;rw[ht,f9 rfl,f9 rfl]
 ·rw[d8 h,d8 (fun e=>h (a0O hS hT (by rw[e,ht])))]
def kd(l:List d7)(i:Nat):Int:=match l[i]? with|some x=>x.Ks|none=>0
theorem u0{l:List d7}{i:Nat}{x:d7}(h:l[i]? =some x):kd l i=x.Ks:=by unfold kd;rw[h]
def fkd(l:List d7):List Nat→Int
 | []=>0
 |k::_=>kd l k
def E9(l:List d7)(ks:List Nat):List Int:=ks.map fun k=>F4 (kd l k)
theorem EB(l:List d7)(ks:List Nat):∀x∈E9 l ks,0≤x∧x<256:=by intro x hx;obtain⟨k,_,rfl⟩:=List.mem_map.1 hx;exact b2M _
theorem RM{l:List d7}{i:Nat}{x:d7}(hx:l[i]? =some x)(hl:l.length≤100000000){S:List Int}(hS:∀y∈S,0≤y∧y<256)(hSl:S.length≤100000000)(d:d7)(fk:Int)(hd:S=[]∨d.Ks=fk):∃b,vQ d5 l (i:Int) S d=some ((b,()),())∧(b=true→Fam x.Ks x.Ns i S fk):=by
 have hil:i<l.length:=(l9.1 hx).1;have hxe:l[i]=x:=(l9.1 hx).2;have o:=YB S hS hSl;have bl:(y7 S).length=S.length:=(by unfold y7;rw[H2]);have t1:∀(T:List Int) (t:b5Y),t=y7 T→(∀y∈T,0≤y∧y<256)→decide (y7 S=t)=decide (S=T):=fun T t e h=>a28 hS T h e;have r116:=t1 [116] [116] rfl (by decide);have r116e:=t1 [116,101] [116,101] rfl (by decide);have ree:=t1 [101,101] [101,101] rfl (by decide);have reb:=t1 [101,98] [101,98] rfl (by decide);have rebb:=t1 [101,98,98] [101,98,98] rfl (by decide);have re:=t1 [101] [101] rfl (by decide);have rn:=t1 [] [] rfl (by decide);rw[a4b,vA,l7 hil,d6,hxe,r116,r116e,ree,reb,rebb,re,rn];by_cases h1:x.Ks=1
 ·rw[f9 h1,i7];by_cases hi0:(i:Int)=0
  ·obtain⟨b,g1,g2⟩:=o 100;rw[f9 hi0,i7,g1];exact⟨b,rfl,fun hb=>by constructor<;>intro h<;>first|(exfalso;omega)|exact⟨by omega,g2 hb⟩⟩
  ·rw[d8 hi0];exact⟨_,rfl,fun h=>nomatch h⟩
 by_cases h2:x.Ks=2
 ·obtain⟨b,g1,g2⟩:=o 102;rw[d8 h1,i5,f9 h2,i7,g1];exact⟨b,rfl,fun hb=>by constructor<;>intro h<;>first|(exfalso;omega)|exact g2 hb⟩
 rw[d8 h1,i5,d8 h2,i5];have c3:∀{r:Option RT0},x.Ks=3∨x.Ks=5∨x.Ks=20→r=some (((decide (S=[116])),()),())→∃b,r=some ((b,()),())∧(b=true→Fam x.Ks x.Ns i S fk):=by
  intro r hk hr;refine⟨_,hr,fun hb=>?_⟩;have key:=D6 hb
  constructor<;>intro h<;>first|(exfalso;omega)|exact key
 by_cases h3:x.Ks=3
 ·rw[f9 h3];exact c3 (.inl h3) rfl
 by_cases h5:x.Ks=5
 ·rw[d8 h3,i5,f9 h5];exact c3 (.inr (.inl h5)) rfl
 by_cases h20:x.Ks=20
 ·rw[d8 h3,i5,d8 h5,i5,f9 h20];exact c3 (.inr (.inr h20)) rfl
 rw[d8 h3,i5,d8 h5,i5,d8 h20,i5];by_cases h4:x.Ks=4
 ·rw[f9 h4,i7,bl];by_cases c2:(S.length:Int)≥2
  ·have e2:w64 ((S.length:Int)-2)=((S.length-2:Nat):Int):=(by rw[wrap64 (by omega) (by omega)];omega);have e1:w64 ((S.length:Int)-1)=((S.length-1:Nat):Int):=(by rw[wrap64 (by omega) (by omega)];omega);rw[f9 c2,i7,d6,e2,e1];by_cases cn:((S.length-2:Nat):Int)=x.Ns
   ·have hcut:B9 (0:Int) ((S.length-2:Nat):Int) (S.length:Int):=⟨by omega,by omega,by omega⟩;have hcl:x8 (y7 S) (0:Int) ((S.length-2:Nat):Int)=y7 (S.take (S.length-2)):=by unfold x8 y7;rw[List.map_take];simp
    have hT:∀y∈S.take (S.length-2),0≤y∧y<256:=fun y hy=>hS y (List.mem_of_mem_take hy);obtain⟨b,g1,g2⟩:=YB (S.take (S.length-2)) hT (by rw[List.length_take];omega) 112;have i1:S.length-2<S.length:=(by omega);have i2:S.length-1<S.length:=(by omega);have v1:i6 (y7 S) ((S.length-2:Nat):Int)=some (UInt8.ofNat (S[S.length-2]).toNat):=by rw[l7 (by rw[bl];exact i1)];simp[y7]
    have v2:i6 (y7 S) ((S.length-1:Nat):Int)=some (UInt8.ofNat (S[S.length-1]).toNat):=by rw[l7 (by rw[bl];exact i2)];simp[y7]
    have u1:=GZ (hS _ (y5 i1));have u2:=GZ (hS _ (y5 i2));have hsp:S=S.take (S.length-2)++[S[S.length-2],S[S.length-1]]:=by
     conv=>lhs;rw[←List.take_append_drop (S.length-2) S]
     congr 1;rw[H5 i1];congr 1;have:S.length-2+1=S.length-1:=(by omega);rw[this,H5 i2];congr 1;exact J1 (by omega)
    have fin:∀{r:Option RT0} (t:Int),S[S.length-2]=t→(t=116∨t=48)→b=true→r=some (((decide (S[S.length-1]=98)),()),())→∃b,r=some ((b,()),())∧(b=true→Fam x.Ks x.Ns i S fk):=by
     intro r t ht ht2 hb hr;refine⟨_,hr,fun hb2=>?_⟩;have k2:=D6 hb2;have key:∃(P:List Int) (t:Int),S=P++[t,98]∧x.Ns=P.length∧(∀s∈P,s=112)∧(t=116∨t=48):=by refine⟨S.take (S.length-2),t,?_,by rw[List.length_take];omega,g2 hb,ht2⟩;rw[k2,ht]at hsp;exact hsp
     constructor<;>intro h<;>first|(exfalso;omega)|exact key
    rw[f9 cn,i7,W5 hcut,d6,hcl,g1,d6];cases b with
    |false=>exact⟨_,rfl,fun h=>nomatch h⟩
    |true=>
     rw[i7,v1,d6,u1,v2,d6,d6,u2];by_cases z1:S[S.length-2]=116
     ·rw[f9 z1];exact fin 116 z1 (.inl rfl) rfl rfl
     ·rw[d8 z1,i5,u1];by_cases z2:S[S.length-2]=48
      ·rw[f9 z2];exact fin 48 z2 (.inr rfl) rfl rfl
      ·rw[d8 z2];exact⟨_,rfl,fun h=>nomatch h⟩
   ·rw[d8 cn];exact⟨_,rfl,fun h=>nomatch h⟩
  ·rw[d8 c2];exact⟨_,rfl,fun h=>nomatch h⟩
 rw[d8 h4,i5];by_cases h6:x.Ks=6
 ·obtain⟨b,g1,g2⟩:=o 115;rw[f9 h6,i7,g1];exact⟨b,rfl,fun hb=>by constructor<;>intro h<;>first|(exfalso;omega)|exact g2 hb⟩
 rw[d8 h6,i5];by_cases h7:x.Ks=7
 ·rw[f9 h7,i7];exact⟨_,rfl,fun hb=>by have key:=D6 hb;constructor<;>intro h<;>first|(exfalso;omega)|exact key⟩
 rw[d8 h7,i5];by_cases h8:x.Ks=8
 ·rw[f9 h8,i7];by_cases hs:S=[101,101]
  ·rw[f9 hs,i7];have hd2:d.Ks=fk:=by
                 rcases hd with h|h
                 ·rw[hs]at h;cases h
                 ·exact h
   have fin:∀{r:Option RT0} {b:Bool},r=some ((b,()),())→(b=true→fk=26∨fk=28∨fk=29)→∃b,r=some ((b,()),())∧(b=true→Fam x.Ks x.Ns i S fk):=by
    intro r b hr hb;refine⟨b,hr,fun h=>?_⟩;have key:=hb h
    constructor<;>intro h<;>first|(exfalso;omega)|exact⟨hs,key⟩
   by_cases d1:d.Ks=26
   ·rw[f9 d1];exact fin rfl (fun _=>by omega)
   ·rw[d8 d1,i5];by_cases d2:d.Ks=28
    ·rw[f9 d2];exact fin rfl (fun _=>by omega)
    ·rw[d8 d2,i5];exact fin rfl (fun h=>by have:=D6 h;omega)
  ·rw[d8 hs];exact⟨_,rfl,fun h=>nomatch h⟩
 rw[d8 h8,i5];by_cases h9:x.Ks=9
 ·rw[f9 h9,i7];by_cases hs:S=[101,98]
  ·rw[f9 hs];exact⟨_,rfl,fun hb=>by constructor<;>intro h<;>first|(exfalso;omega)|exact .inl hs⟩
  ·rw[d8 hs];exact⟨_,rfl,fun hb=>by have key:=D6 hb;constructor<;>intro h<;>first|(exfalso;omega)|exact .inr key⟩
 rw[d8 h9,i5];by_cases h10:x.Ks=10
 ·rw[f9 h10,i7];exact⟨_,rfl,fun hb=>by have key:=D6 hb;constructor<;>intro h<;>first|(exfalso;omega)|exact key⟩
 rw[d8 h10,i5];by_cases h11:x.Ks=11
 ·rw[f9 h11,i7];by_cases hs:S=[]
  ·rw[f9 hs];exact⟨_,rfl,fun hb=>by constructor<;>intro h<;>first|(exfalso;omega)|exact .inl hs⟩
  ·rw[d8 hs];exact⟨_,rfl,fun hb=>by have key:=D6 hb;constructor<;>intro h<;>first|(exfalso;omega)|exact .inr key⟩
 rw[d8 h11,i5];have c12:∀{r:Option RT0},x.Ks=12∨x.Ks=29∨x.Ks=30→r=some (((decide (S=[101])),()),())→∃b,r=some ((b,()),())∧(b=true→Fam x.Ks x.Ns i S fk):=by
  intro r hk hr;refine⟨_,hr,fun hb=>?_⟩;have key:=D6 hb
  constructor<;>intro h<;>first|(exfalso;omega)|exact key
 by_cases h12:x.Ks=12
 ·rw[f9 h12];exact c12 (.inl h12) rfl
 by_cases h29:x.Ks=29
 ·rw[d8 h12,i5,f9 h29];exact c12 (.inr (.inl h29)) rfl
 by_cases h30:x.Ks=30
 ·rw[d8 h12,i5,d8 h29,i5,f9 h30];exact c12 (.inr (.inr h30)) rfl
 rw[d8 h12,i5,d8 h29,i5,d8 h30,i5];by_cases h13:x.Ks=13
 ·rw[f9 h13,i7];by_cases hs:S=[101]
  ·have hd2:d.Ks=fk:=by
                 rcases hd with h|h
                 ·rw[hs]at h;cases h
                 ·exact h
   rw[f9 hs];exact⟨_,rfl,fun hb=>by have key:=D6 hb;constructor<;>intro h<;>first|(exfalso;omega)|exact⟨hs,by omega⟩⟩
  ·rw[d8 hs];exact⟨_,rfl,fun h=>nomatch h⟩
 rw[d8 h13,i5];by_cases h27:x.Ks=27
 ·obtain⟨b,g1,g2⟩:=o 101;rw[f9 h27,i7,g1];exact⟨b,rfl,fun hb=>by constructor<;>intro h<;>first|(exfalso;omega)|exact g2 hb⟩
 rw[d8 h27,i5];have c28:∀{r:Option RT0},x.Ks=28∨x.Ks=31→r=some (((decide (S=[101,101])),()),())→∃b,r=some ((b,()),())∧(b=true→Fam x.Ks x.Ns i S fk):=by
  intro r hk hr;refine⟨_,hr,fun hb=>?_⟩;have key:=D6 hb
  constructor<;>intro h<;>first|(exfalso;omega)|exact key
 by_cases h28:x.Ks=28
 ·rw[f9 h28];exact c28 (.inl h28) rfl
 by_cases h31:x.Ks=31
 ·rw[d8 h28,i5,f9 h31];exact c28 (.inr h31) rfl
 rw[d8 h28,i5,d8 h31,i5];by_cases h32:x.Ks=32
 ·rw[f9 h32,i7];have fin:∀{r:Option RT0} {b:Bool},r=some ((b,()),())→(b=true→S=[116]∧fk=19∨S=[116,101]∧fk=20)→∃b,r=some ((b,()),())∧(b=true→Fam x.Ks x.Ns i S fk):=by
   intro r b hr hb;refine⟨b,hr,fun h=>?_⟩;have key:=hb h
   constructor<;>intro h<;>first|(exfalso;omega)|exact key
  have two:∃b,(cond (decide (S=[116,101])) (some (((decide (d.Ks=20)),()),())) (some ((false,()),())):Option RT0)=some ((b,()),())∧(b=true→Fam x.Ks x.Ns i S fk):=by
   by_cases hs:S=[116,101]
   ·have hd2:d.Ks=fk:=by
                  rcases hd with h|h
                  ·rw[hs]at h;cases h
                  ·exact h
    rw[f9 hs];exact fin rfl (fun h=>.inr ⟨hs,by have:=D6 h;omega⟩)
   ·rw[d8 hs];exact⟨_,rfl,fun h=>nomatch h⟩
  by_cases hs:S=[116]
  ·have hd2:d.Ks=fk:=by
                 rcases hd with h|h
                 ·rw[hs]at h;cases h
                 ·exact h
   rw[f9 hs,i7];by_cases d1:d.Ks=19
   ·rw[f9 d1];exact fin rfl (fun _=>.inl ⟨hs,by omega⟩)
   ·rw[d8 d1];exact two
  ·rw[d8 hs];exact two
 rw[d8 h32,i5];by_cases hs:S=[]
 ·rw[f9 hs,i7,d6,d6];by_cases c14:x.Ks≥14
  ·rw[f9 c14];exact⟨_,rfl,fun hb=>by have key:=D6 hb;constructor<;>intro h<;>first|(exfalso;omega)|exact⟨hs,by omega,key⟩⟩
  ·rw[d8 c14];exact⟨_,rfl,fun h=>nomatch h⟩
 ·rw[d8 hs];exact⟨_,rfl,fun h=>nomatch h⟩
theorem a7k{l:List d7}{i st:Nat}{x:d7}(hl:l.length≤100000000)(hx:l[i]? =some x)(hs:x.Cs=(st:Int)-(i+1))(hst:st≤l.length){ks:List Nat}(h:Kc l (i+1) st ks):∃b,yJ d5 l (i:Int)=some ((b,()),())∧(b=true→Fam x.Ks x.Ns i (E9 l ks) (fkd l ks)):=by
 have hkl:=h.le;rw[a3N,mJ,T8 hl hx hs hst h,d6];generalize hI:ks.map (fun(k:Nat)=>(k:Int))=ksI;have hIl:ksI.length=ks.length:=(by rw[←hI,H2]);have get:∀(d:Nat) (hd:d<ks.length),∃y,l[ks[d]]? =some y∧i6 ksI (d:Int)=some ((ks[d]:Nat):Int)∧ksI[d]? =some ((ks[d]:Nat):Int)∧i6 l ((ks[d]:Nat):Int)=some y:=by
  intro d hd;obtain⟨_,_,y,q,hy,_⟩:=h.mem _ (y5 hd);have hyl:=(l9.1 hy).1;refine⟨y,hy,?_,?_,?_⟩
  ·rw[l7 (by rw[hIl];exact hd)];simp[←hI]
  ·simp[←hI,hd]
  ·rw[l7 hyl];exact(p8 hyl).symm.trans hy
 have loop:∀(n d:Nat),ks.length-d=n→d≤ks.length→Xj d5 l (i:Int) ((ksI,()),()) (d:Int) (E9 l (ks.take d))=DT d5 l (i:Int) ((ksI,()),()) (E9 l ks):=by
  intro n
  induction n with
  |zero=>intro d hn hd;rw[VW,aJ];simp only[hIl];rw[d8 (by omega),i5,List.take_of_length_le (by omega)]
  |succ n ih=>
   intro d hn hd;have hdl:d<ks.length:=(by omega);obtain⟨y,hy,g1,g2,g3⟩:=get d hdl;have e1:w64 ((d:Int)+1)=((d+1:Nat):Int):=(by rw[wrap64 (by omega) (by omega)];omega);have es:E9 l (ks.take d)++[F4 y.Ks]=E9 l (ks.take (d+1)):=by unfold E9;rw[List.take_add_one,p8 hdl,F9];simp[u0 hy]
   have hz:(E9 l (ks.take d)).length+ [F4 y.Ks].length≤100000000:=by unfold E9;rw[H2,List.length_take,y4];omega
   have:=ih (d+1) (by omega) (by omega);rw[VW,aJ];simp only[hIl];rw[f9 (by omega),i7,g1,d6,B8,g2,d6,g3,d6,b2L,d6];simp only;rw[J9 (by decide) hz,d6,es,e1,this]
 have l0:=loop _ 0 rfl (C8 _);rw[List.take_zero]at l0;rw[show Xj d5 l (i:Int) ((ksI,()),()) 0 []=_ from l0,a7u,dU,SB (EB l ks),d6];have hsl:(E9 l ks).length≤100000000:=(by unfold E9;rw[H2];omega);simp only[hIl];cases ks with
 |nil=>rw[d8 (by simp),i5];exact RM hx hl (EB l []) hsl _ _ (.inl rfl)
 |cons k ks=>obtain⟨y,hy,g1,g2,g3⟩:=get 0 (by simp);rw[f9 (by simp),i7,show i6 ksI 0=_ from g1,d6,show ksI[Int.toNat 0]? =_ from g2,d6,g3,d6];exact RM hx hl (EB l (k::ks)) hsl _ _ (.inr (u0 hy).symm)
structure Fld(x:d7):Prop where
 n21:x.Ks=21→0≤x.Ns
 n22:x.Ks=22→0≤x.Ns∧x.Ns<8388608
 n24:x.Ks=24→x.Ns=0∨x.Ns=1
 n30:x.Ks=30→x.Ns=12∨x.Ns=13
 n31:x.Ks=31→1≤x.Ns∧x.Ns≤11∨x.Ns=14∨x.Ns=15
theorem LX(s:b5Y)(hs:s.length≤65536)(k:Int):∃b,pA d5 s k=some ((b,()),()):=by
 rw[b2x,tH];by_cases c:(s.length:Int)=0
 ·rw[f9 c];exact⟨_,rfl⟩
 have h0:0<s.length:=(by omega);have j0:∃b,rS d5 s k=some ((b,()),()):=by
  obtain⟨t,n,e,h1,h2⟩:=ZN s hs 0 h0;rw[b1y,oJ,show Wd d5 s 0=_ from h1,d6];cases decide (e=0)with
  |false=>exact⟨_,rfl⟩
  |true=>
   rw[i7];cases decide (n=(s.length:Int))with
   |false=>exact⟨_,rfl⟩
   |true=>exact⟨_,rfl⟩
 rw[d8 c,i5,show i6 s 0=some s[0]from l7 (i:=0) h0,d6,d6];cases decide ((s[0].toNat:Int)≥48)with
 |false=>exact j0
 |true=>
  rw[i7];cases decide ((s[0].toNat:Int)≤57)with
  |false=>exact j0
  |true=>exact⟨_,rfl⟩
theorem b44(x:d7)(hs:x.Gs.length≤65536):∃b,CR d5 x=some ((b,()),())∧(b=true→Fld x):=by
 obtain⟨bg,hg⟩:=LX x.Gs hs 2;obtain⟨bn',hn⟩:=LX x.Gs hs 1;have hG:FR d5 x.Gs=some ((bg,()),()):=(by rw[a4h,wC,hg];rfl);have hN:fJ d5 x.Gs=some ((bn',()),()):=(by rw[a4v,fD,hn];rfl);have triv:∀{r:Option RT0} {b:Bool},r=some ((b,()),())→(x.Ks<21∨x.Ks=23∨25≤x.Ks∧x.Ks≤29∨32≤x.Ks)→∃b,r=some ((b,()),())∧(b=true→Fld x):=by
  intro r b hr hk;refine⟨b,hr,fun _=>?_⟩
  constructor<;>intro h<;>(exfalso;omega)
 have j0:(x.Ks=2∨x.Ks=19)→∃b,wO d5 x=some ((b,()),())∧(b=true→Fld x):=by
  intro hk;rw[a4a,vT,hG,d6];cases bg with
  |true=>exact triv rfl (by omega)
  |false=>exact triv rfl (by omega)
 have j1:(x.Ks=3∨x.Ks=5∨x.Ks=7∨x.Ks=26∨x.Ks=27∨x.Ks=29)→∃b,Gm d5 x=some ((b,()),())∧(b=true→Fld x):=by
  intro hk;rw[a7b,wV,hN,d6];cases bn' with
  |true=>exact triv rfl (by omega)
  |false=>exact triv rfl (by omega)
 rw[a82,jL];by_cases h2:x.Ks=2
 ·rw[f9 h2];exact j0 (.inl h2)
 rw[d8 h2,i5];by_cases h19:x.Ks=19
 ·rw[f9 h19];exact j0 (.inr h19)
 rw[d8 h19,i5];by_cases h3:x.Ks=3
 ·rw[f9 h3];exact j1 (by omega)
 rw[d8 h3,i5];by_cases h5:x.Ks=5
 ·rw[f9 h5];exact j1 (by omega)
 rw[d8 h5,i5];by_cases h7:x.Ks=7
 ·rw[f9 h7];exact j1 (by omega)
 rw[d8 h7,i5];by_cases h26:x.Ks=26
 ·rw[f9 h26];exact j1 (by omega)
 rw[d8 h26,i5];by_cases h27:x.Ks=27
 ·rw[f9 h27];exact j1 (by omega)
 rw[d8 h27,i5];by_cases h29:x.Ks=29
 ·rw[f9 h29];exact j1 (by omega)
 rw[d8 h29,i5];by_cases h4:x.Ks=4
 ·rw[f9 h4,i7,hN];exact triv rfl (by omega)
 rw[d8 h4,i5];by_cases h23:x.Ks=23
 ·rw[f9 h23];exact triv rfl (by omega)
 rw[d8 h23,i5];cases decide (x.Gs=([]:b5Y))with
 |false=>exact⟨_,rfl,fun h=>nomatch h⟩
 |true=>
 rw[x4,i5];by_cases h21:x.Ks=21
 ·rw[f9 h21];exact⟨_,rfl,fun hb=>by have key:=D6 hb;constructor<;>intro h<;>first|(exfalso;omega)|exact key⟩
 rw[d8 h21,i5];by_cases h22:x.Ks=22
 ·rw[f9 h22,i7];by_cases a:x.Ns≥0
  ·rw[f9 a];exact⟨_,rfl,fun hb=>by have key:=D6 hb;constructor<;>intro h<;>first|(exfalso;omega)|exact⟨a,key⟩⟩
  ·rw[d8 a];exact⟨_,rfl,fun h=>nomatch h⟩
 rw[d8 h22,i5];by_cases h24:x.Ks=24
 ·rw[f9 h24,i7];by_cases a:x.Ns=0
  ·rw[f9 a];exact⟨_,rfl,fun hb=>by constructor<;>intro h<;>first|(exfalso;omega)|exact .inl a⟩
  ·rw[d8 a];exact⟨_,rfl,fun hb=>by have key:=D6 hb;constructor<;>intro h<;>first|(exfalso;omega)|exact .inr key⟩
 rw[d8 h24,i5];by_cases h30:x.Ks=30
 ·rw[f9 h30,i7];by_cases a:x.Ns=12
  ·rw[f9 a];exact⟨_,rfl,fun hb=>by constructor<;>intro h<;>first|(exfalso;omega)|exact .inl a⟩
  ·rw[d8 a];exact⟨_,rfl,fun hb=>by have key:=D6 hb;constructor<;>intro h<;>first|(exfalso;omega)|exact .inr key⟩
 rw[d8 h30,i5];by_cases h31:x.Ks=31
 ·have fin:∀{r:Option RT0} {b:Bool},r=some ((b,()),())→(b=true→1≤x.Ns∧x.Ns≤11∨x.Ns=14∨x.Ns=15)→∃b,r=some ((b,()),())∧(b=true→Fld x):=by
   intro r b hr hb;refine⟨b,hr,fun h=>?_⟩;have key:=hb h
   constructor<;>intro h<;>first|(exfalso;omega)|exact key
  have two:∃b,(cond (decide (x.Ns=14)) (some ((true,()),())) (some (((decide (x.Ns=15)),()),())):Option RT0)=some ((b,()),())∧(b=true→Fld x):=by
   by_cases a:x.Ns=14
   ·rw[f9 a];exact fin rfl (fun _=>by omega)
   ·rw[d8 a];exact fin rfl (fun h=>by have:=D6 h;omega)
  rw[f9 h31,i7];by_cases a:x.Ns≥1
  ·rw[f9 a,i7];by_cases b:x.Ns≤11
   ·rw[f9 b];exact fin rfl (fun _=>by omega)
   ·rw[d8 b];exact two
  ·rw[d8 a];exact two
 rw[d8 h31,i5];exact triv rfl (by omega)
structure J6(l:List d7):Prop where
 root:∃x,l[0]? =some x∧x.Ks=1∧x.Cs=(l.length:Int)-1∧1≤l.length∧WFo l 1 l.length
 nd:∀(i:Nat) (x:d7),l[i]? =some x→∃(st:Nat) (ks:List Nat),x.Cs=(st:Int)-(i+1)∧i+1≤st∧st≤l.length∧WFo l (i+1) st∧Kc l (i+1) st ks∧Fam x.Ks x.Ns i (E9 l ks) (fkd l ks)∧Fld x
theorem WC{l:List d7}(hl:l.length≤100000000)(ht:∀n∈l,n.Gs.length≤65536):∃b,lB d5 l=some ((b,()),())∧(b=true→J6 l):=by
 obtain⟨b,h1,h2⟩:=LI hl;rw[a6T,tC,h1,d6];cases b with
 |false=>exact⟨_,rfl,fun h=>nomatch h⟩
 |true=>
  obtain⟨x,hx,hxs,h0,hw⟩:=h2 rfl;have hxe:l[0]=x:=(l9.1 hx).2;rw[x4,i5,show i6 l 0=some l[0]from l7 (i:=0) h0,d6,hxe];by_cases hk:x.Ks=1
  ·rw[f9 hk,x4,i5];have tree:∀(i:Nat) (x:d7),l[i]? =some x→∃(st:Nat) (ks:List Nat),x.Cs=(st:Int)-(i+1)∧i+1≤st∧st≤l.length∧WFo l (i+1) st∧Kc l (i+1) st ks:=by
    intro i y hy;have hil:=(l9.1 hy).1;by_cases e:i=0
    ·subst e;rw[hx]at hy;cases hy;obtain⟨ks,hks⟩:=hw.kc;exact⟨l.length,ks,by omega,by omega,i8 _,hw,hks⟩
    ·obtain⟨z,k,g1,g2,g3,g4,g5⟩:=hw.inside i (by omega) hil;rw[hy]at g1;cases g1;obtain⟨ks,hks⟩:=g4.kc;exact⟨k,ks,g2,g3,g5,g4,hks⟩
   have loop:∀(n i:Nat),l.length-i=n→∃b,cG d5 l (i:Int)=some ((b,()),())∧(b=true→∀(j:Nat) (x:d7),i≤j→l[j]? =some x→∃(st:Nat) (ks:List Nat),x.Cs=(st:Int)-(j+1)∧j+1≤st∧st≤l.length∧WFo l (j+1) st∧Kc l (j+1) st ks∧Fam x.Ks x.Ns j (E9 l ks) (fkd l ks)∧Fld x):=by
    intro n
    induction n with
    |zero=>intro i hi;rw[WL,Vf,d8 (by omega),i5,a8x,gV];exact⟨_,rfl,fun _ j y hj hy=>by have:=(l9.1 hy).1;omega⟩
    |succ n ih=>
     intro i hi;have hil:i<l.length:=(by omega);have e1:w64 ((i:Int)+1)=((i+1:Nat):Int):=(by rw[wrap64 (by omega) (by omega)];omega);have hy:l[i]? =some l[i]:=p8 hil;obtain⟨st,ks,t1,t2,t3,t4,t5⟩:=tree i _ hy;obtain⟨b1,f1,f2⟩:=b44 l[i] (ht _ (y5 hil));obtain⟨b2,g1,g2⟩:=a7k hl hy t1 t3 t5;obtain⟨b3,k1,k2⟩:=ih (i+1) (by omega);rw[WL,Vf,f9 (by omega),i7,l7 hil,d6,f1,d6];cases b1 with
     |false=>exact⟨_,rfl,fun h=>nomatch h⟩
     |true=>
      rw[x4,i5,g1,d6];cases b2 with
      |false=>exact⟨_,rfl,fun h=>nomatch h⟩
      |true=>
       rw[x4,i5,e1];refine⟨b3,k1,fun hb j y hj hy2=>?_⟩;by_cases e:i=j
       ·subst e;rw[hy]at hy2;cases hy2;exact⟨st,ks,t1,t2,t3,t4,t5,g2 rfl,f2 rfl⟩
       ·exact k2 hb j y (by omega) hy2
   obtain⟨b,k1,k2⟩:=loop _ 0 rfl;exact⟨b,k1,fun hb=>⟨⟨x,hx,hk,hxs,h0,hw⟩,fun i y hy=>k2 hb i y (C8 _) hy⟩⟩
  ·rw[d8 hk];exact⟨_,rfl,fun h=>nomatch h⟩
theorem U5{α:Type}{b:Nat}{xs ys:List α}(hb:b≤1000)(h:xs.length+ys.length≤100000000000):A4 b xs ys=some (xs++ys):=by unfold A4;rw[if_pos];unfold L6 maxLen;have:=Nat.mul_le_mul h hb;omega
structure Z8(nr:Nat)(T:List r9):Prop where
 len:6+nr≤T.length
 base:∀i:Nat,i<6→T[i]? =some ⟨i,0⟩
 recs:∀i:Nat,i<nr→T[6+i]? =some ⟨6,i⟩
 lists:∀(i:Nat) (x:r9),6+nr≤i→T[i]? =some x→x.Ks=7∧1≤x.Of∧x.Of<T.length∧x.Of≠5
def C7(T:List r9)(t:Int):Prop:=1≤t∧t<T.length∧t≠5
theorem C7.ext{T T':List r9}{t:Int}(h:C7 T t)(hp:T<+:T'):C7 T' t:=by have:=hp.length_le;exact⟨h.1,by have:=h.2.1;omega,h.2.2⟩
def TKn(T:List r9)(t k:Int):Prop:=∃y,T[t.toNat]? =some y∧y.Ks=k
def TKd(T:List r9)(t K:Int):Prop:=(K=19→TKn T t 6)∧(K=20→TKn T t 7)
theorem TKn.ext{T T':List r9}{t k:Int}(h:TKn T t k)(hp:T<+:T'):TKn T' t k:=by obtain⟨y,h1,h2⟩:=h;obtain⟨r,rfl⟩:=hp;have:=(l9.1 h1).1;exact⟨y,by rw[R3 this];exact h1,h2⟩
theorem TKd.ext{T T':List r9}{t K:Int}(h:TKd T t K)(hp:T<+:T'):TKd T' t K:=⟨fun hk=>(h.1 hk).ext hp,fun hk=>(h.2 hk).ext hp⟩
theorem a3n(T:List r9)(hT:T.length≤90000000000)(k:Int)(nr:Nat)(h:Z8 nr T)(hk:C7 T k):∃T' t,Kv d5 T k=some ((T',t,()),())∧Z8 nr T'∧C7 T' t∧T<+:T'∧T'.length≤T.length+1∧TKn T' t 7:=by
 have hz:([]:List r9).length+T.length≤100000000000:=(by rw[I0];omega);have h6:=h.len;rw[a4W,iM,U5 (by decide) hz,d6,Z9,d8 (by have:=hk.1;omega),i5,d8 (by have:=hk.2.1;omega),i5,d8 hk.2.2,i5];have loop:∀(n i:Nat),T.length-i=n→∃T' t,Wl d5 T k (i:Int) T=some ((T',t,()),())∧Z8 nr T'∧C7 T' t∧T<+:T'∧T'.length≤T.length+1∧TKn T' t 7:=by
  intro n
  induction n with
  |zero=>
   intro i hi;have hz:T.length+ [(r9.mk 7 k)].length≤100000000000:=(by rw[y4];omega);rw[PP,Yj,d8 (by omega),i5,a9V,lS,U5 (by decide) hz];refine⟨_,_,rfl,⟨?_,fun i hi=>?_,fun i hi=>?_,fun i x hi hx=>?_⟩,⟨by omega,by rw[o5,y4];omega,by omega⟩,List.prefix_append _ _,by simp,⟨_,by rw[B8,Ci (i8 _),Rf];rfl,rfl⟩⟩
   ·rw[o5];omega
   ·rw[R3 (by omega)];exact h.base i hi
   ·rw[R3 (by omega)];exact h.recs i hi
   ·by_cases c:i<T.length
    ·rw[R3 c]at hx;obtain⟨a1,a2,a3,a4⟩:=h.lists i x hi hx;exact⟨a1,a2,by rw[o5];omega,a4⟩
    ·rw[Ci (by omega)]at hx;have:i-T.length=0:=by have:=(l9.1 hx).1;simpa using this
     rw[this]at hx;cases hx;exact⟨rfl,hk.1,by rw[o5];have:=hk.2.1;simp only;omega,hk.2.2⟩
  |succ n ih=>
   intro i hi;have hil:i<T.length:=(by omega);have e:=ih (i+1) (by omega);rw[PP,Yj,f9 (by omega),i7,l7 hil,d6,d6,z8 (by omega)];by_cases c7:T[i].Ks=7
   ·rw[f9 c7,i7];by_cases co:T[i].Of=k
    ·rw[f9 co];have hi6:6≤i:=by
      refine Nat.le_of_not_lt fun hlt=>?_;have:=h.base i hlt;rw[p8 hil]at this;injection this with this
      rw[this]at c7;simp only at c7;omega
     exact⟨T,i,rfl,h,⟨by omega,by omega,by omega⟩,L8 _,by omega,⟨_,by rw[B8];exact p8 hil,c7⟩⟩
    ·rw[d8 co];exact e
   ·rw[d8 c7];exact e
 exact loop _ 0 rfl
theorem a7x(T:List r9)(recs:List (b5Y))(hr:recs.length≤90000000000)(x:d7)(hx:15≤x.Ks∧x.Ks≤19)(nr:Nat)(h:Z8 nr T):∃t,CT d5 T recs x=some ((t,()),())∧(t=0∨C7 T t∧(x.Ks=19→TKn T t 6)):=by
 have h6:=h.len;rw[b2Y,oL];by_cases c:x.Ks<19
 ·rw[f9 c,i7,wrap64 (n:=x.Ks) (by omega) (by omega),wrap64 (by omega) (by omega)];exact⟨_,rfl,.inr ⟨⟨by omega,by omega,by omega⟩,fun h=>by omega⟩⟩
 ·rw[d8 c,i5];have loop:∀(n i:Nat),recs.length-i=n→∃t,pR d5 T recs (i:Int) x=some ((t,()),())∧(t=0∨C7 T t∧(x.Ks=19→TKn T t 6)):=by
   intro n
   induction n with
   |zero=>intro i hi;rw[VT,Tj,d8 (by omega),i5,b0Q,cC];exact⟨_,rfl,.inl rfl⟩
   |succ n ih=>
    intro i hi;have hil:i<recs.length:=(by omega);have e:=ih (i+1) (by omega);have e6:w64 ((i:Int)+6)=((i+6:Nat):Int):=(by rw[wrap64 (by omega) (by omega)];omega);rw[VT,Tj,f9 (by omega),i7,l7 hil,d6,z8 (by omega),e6];cases decide (recs[i]=x.Gs)with
    |false=>exact e
    |true=>
     rw[i7];by_cases c6:((i+6:Nat):Int)<(T.length:Int)
     ·have hl6:i+6<T.length:=(by omega);rw[f9 c6,i7,l7 hl6,d6];by_cases ck:T[i+6].Ks=6
      ·rw[f9 ck];exact⟨_,rfl,.inr ⟨⟨by omega,by omega,by omega⟩,fun _=>⟨_,by rw[B8];exact p8 hl6,ck⟩⟩⟩
      ·rw[d8 ck];exact⟨_,rfl,.inl rfl⟩
     ·rw[d8 c6];exact⟨_,rfl,.inl rfl⟩
  exact loop _ 0 rfl
theorem b4Y(x:d7)(hx:x.Gs.length≤65536):∃b,EO d5 [x]=some ((b,()),()):=by
 obtain⟨b,h1,_⟩:=LI (l:=[x]) (by simp);rw[a3D,xH,h1,d6];cases b with
 |false=>exact⟨_,rfl⟩
 |true=>
  rw[x4,i5,J9 (by decide) (by simp),d6];have ht:∀n∈([(d7.mk 1 0 0 (w64 (([x].length:Int)+2)) 0 ([]:b5Y)),(d7.mk 2 0 0 (w64 (([x].length:Int)+1)) 0 ([82]:b5Y)),(d7.mk 3 0 0 ([x].length:Int) 0 ([102]:b5Y))]:List d7)++[x],n.Gs.length≤65536:=by
   intro n hn;simp only[List.cons_append,Z9,D4,List.not_mem_nil,or_false]at hn;rcases hn with rfl|rfl|rfl|rfl
   ·simp
   ·simp
   ·simp
   ·exact hx
  obtain⟨b,h3,_⟩:=WC (by simp) ht;rw[h3];exact⟨_,rfl⟩
theorem a6j(T:List r9)(hT:T.length≤90000000000)(recs:List (b5Y))(hr:recs.length≤90000000000)(x:d7)(hx:15≤x.Ks∧x.Ks≤19)(ht:x.Gs.length≤65536)(nr:Nat)(h:Z8 nr T):∃T' t,Pk d5 T recs [x]=some ((T',t,()),())∧(t=0∨C7 T t∧(x.Ks=19→TKn T t 6)):=by
 obtain⟨b,h1⟩:=b4Y x ht;obtain⟨t,h2,h3⟩:=a7x T recs hr x hx nr h;have hz:([]:List r9).length+T.length≤100000000000:=(by rw[I0];omega);rw[b0Y,sP,U5 (by decide) hz,d6,h1,d6];cases b with
 |false=>exact⟨_,_,rfl,.inl rfl⟩
 |true=>
  rw[x4,i5,show i6 [x] (w64 (([x].length:Int)-1))=some x from rfl,d6,h2,d6];by_cases c:t=0
  ·rw[f9 c];exact⟨_,_,rfl,.inl rfl⟩
  ·have e0:w64 ((([x]:List d7).length:Int)-1)=0:=rfl;rw[d8 c,i5,b0q,qL,e0,d8 (by omega),i5,a6R,bS];exact⟨_,_,rfl,h3⟩
def x9(s:d9)(i:Nat)(m:l4):d9:=⟨⟨s.P.No,s.P.Ms.set i m,s.P.To,s.P.Rs,s.P.Id,s.P.As,s.P.Ss,s.P.Vars,s.P.Es⟩,s.Rs,s.F⟩
theorem Bv(s:d9)(hm:s.P.Ms.length≤90000000)(i:Nat)(hi:i<s.P.Ms.length)(m:l4):Fy d5 s (i:Int) m=some ((x9 s i m,()),()):=by have hz:([]:List l4).length+s.P.Ms.length≤100000000:=(by rw[I0];omega);rw[fI,Jn,J9 (by decide) hz,d6,Z9,l7 hi,d6,B8,p8 hi,d6];rfl
theorem LZ:We d5=Fy d5:=by funext s i m;rw[a8G,sT,fI,Jn]
theorem JK:Pe d5=Fy d5:=by funext s i m;rw[b2W,mU,fI,Jn]
theorem Ou:Ep d5=Fy d5:=by funext s i m;rw[a5N,jR,fI,Jn]
theorem a0Y:oG d5=Bm d5:=by funext s i m;rw[a5b,cV,cI,Jv]
theorem AP:Xi d5=Bm d5:=by funext s i m;rw[a6F,uZ,cI,Jv]
theorem Mw:Ha d5=Bm d5:=by funext s i m;rw[a5a,fU,cI,Jv]
theorem Q9(s:d9):N2 d5 s=some ((!decide (s.F.Code=0),()),()):=a21 s
theorem Z0(s:d9)(e:Int)(he:e≠0)(i:Nat)(hi:i<s.P.No.length):∃f:y6,Bm d5 s e (i:Int)=some (((⟨s.P,s.Rs,f⟩:d9),()),())∧f.Code≠0:=by
 rw[cI,Jv,Q9,d6];by_cases c:s.F.Code=0
 ·rw[f9 c,x4,D3,i7,l7 hi,d6,d6];exact⟨_,rfl,he⟩
 ·rw[d8 c];exact⟨s.F,rfl,c⟩
end
section
def cQ(l:List d7)(T:List r9)(f:t9):Prop:=∃(k:Nat) (x:d7),f.Hs=(k:Int)∧l[k]? =some x∧x.Ks=4∧f.Ps=x.Ns∧(f.By=0∨C7 T f.By)
def tot(s:d9):Nat:=s.P.To.length+s.P.Es.length+s.P.Vars.length+s.P.Ss.length+s.P.Id.length+s.P.Rs.length+s.P.As.length+s.Rs.length
structure RI(l:List d7)(nr B:Nat)(s:d9):Prop where
 nodes:s.P.No=l
 marks:s.P.Ms.length=l.length
 big:tot s≤B
 ty:Z8 nr s.P.To
 mt:∀m∈s.P.Ms,0≤m.Ts∧m.Ts<s.P.To.length
 fl:s.F.Code=0→∀f∈s.P.Id,C7 s.P.To f.Ts
 rc:∀r∈s.P.Rs,0≤r.Ws∧0≤r.Xs∧r.Ws+r.Xs≤s.P.Id.length
 fn:∀f∈s.P.As,cQ l s.P.To f
 sl:s.F.Code=0→∀t∈s.P.Ss,C7 s.P.To t
theorem cQ.ext{l:List d7}{T T':List r9}{f:t9}(h:cQ l T f)(hp:T<+:T'):cQ l T' f:=by
 obtain⟨k,x,h1,h2,h3,h4,h5⟩:=h;refine⟨k,x,h1,h2,h3,h4,?_⟩;rcases h5 with h5|h5
 ·exact .inl h5
 ·exact .inr (h5.ext hp)
theorem RI.more{l:List d7}{nr B B':Nat}{s:d9}(h:RI l nr B s)(hb:B≤B'):RI l nr B' s:=⟨h.nodes,h.marks,by have:=h.big;omega,h.ty,h.mt,h.fl,h.rc,h.fn,h.sl⟩
theorem RI.fault{l:List d7}{nr B:Nat}{s:d9}(h:RI l nr B s)(f:y6)(hf:f.Code=0→s.F.Code=0):RI l nr B ⟨s.P,s.Rs,f⟩:=⟨h.nodes,h.marks,h.big,h.ty,h.mt,fun c=>h.fl (hf c),h.rc,h.fn,fun c=>h.sl (hf c)⟩
theorem RI.types{l:List d7}{nr B:Nat}{s:d9}(h:RI l nr B s){T:List r9}(hT:Z8 nr T)(hp:s.P.To<+:T)(hl:T.length≤s.P.To.length+1):RI l nr (B+1) ⟨⟨s.P.No,s.P.Ms,T,s.P.Rs,s.P.Id,s.P.As,s.P.Ss,s.P.Vars,s.P.Es⟩,s.Rs,s.F⟩:=by
 have hlen:=hp.length_le;refine⟨h.nodes,h.marks,?_,hT,fun m hm=>?_,fun c f hf=>(h.fl c f hf).ext hp,h.rc,fun f hf=>(h.fn f hf).ext hp,fun c t ht=>(h.sl c t ht).ext hp⟩
 ·have:=h.big;unfold tot at this⊢;simp only;omega
 ·have:=h.mt m hm;exact⟨this.1,by simp only;omega⟩
theorem RI.mark{l:List d7}{nr B:Nat}{s:d9}(h:RI l nr B s)(i:Nat)(m:l4)(h0:0≤m.Ts)(h1:m.Ts<s.P.To.length):RI l nr B (x9 s i m):=by
 refine⟨h.nodes,by unfold x9;simp only[T4];exact h.marks,h.big,h.ty,fun x hx=>?_,h.fl,h.rc,h.fn,h.sl⟩;rcases List.mem_or_eq_of_mem_set hx with hx|rfl
 ·exact h.mt x hx
 ·exact⟨h0,h1⟩
structure Ex(l:List d7)(s s':d9)(lo hi:Nat):Prop where
 types:s.P.To<+:s'.P.To
 marks:∀i:Nat,(i<lo∨hi≤i)→s'.P.Ms[i]? =s.P.Ms[i]?
 par:∀i:Nat,kd l i=5→s'.P.Ms[i]? =s.P.Ms[i]?
 recs:s'.P.Rs=s.P.Rs
 fields:s'.P.Id=s.P.Id
 fns:s'.P.As=s.P.As
 slots:s'.P.Ss=s.P.Ss
 vars:s'.P.Vars=s.P.Vars
 points:s'.P.Es=s.P.Es
 own:s'.Rs=s.Rs
 bad:s.F.Code≠0→s'.F.Code≠0
theorem Ex.refl(l:List d7)(s:d9)(lo hi:Nat):Ex l s s lo hi:=⟨L8 _,fun _ _=>rfl,fun _ _=>rfl,rfl,rfl,rfl,rfl,rfl,rfl,rfl,id⟩
theorem Ex.trans{l:List d7}{s s' s'':d9}{lo hi lo' hi' lo2 hi2:Nat}(h:Ex l s s' lo hi)(h':Ex l s' s'' lo' hi')(a:lo2≤lo)(b:hi≤hi2)(c:lo2≤lo')(d:hi'≤hi2):Ex l s s'' lo2 hi2:=
 ⟨h.types.trans h'.types,fun i hi=>(h'.marks i (by omega)).trans (h.marks i (by omega)),fun i hi=>(h'.par i hi).trans (h.par i hi),h'.recs.trans h.recs,h'.fields.trans h.fields,h'.fns.trans h.fns,h'.slots.trans h.slots,h'.vars.trans h.vars,h'.points.trans h.points,h'.own.trans h.own,fun hb=>h'.bad (h.bad hb)⟩
theorem Ex.fault(l:List d7)(s:d9)(f:y6)(hf:f.Code≠0)(lo hi:Nat):Ex l s ⟨s.P,s.Rs,f⟩ lo hi:=⟨L8 _,fun _ _=>rfl,fun _ _=>rfl,rfl,rfl,rfl,rfl,rfl,rfl,rfl,fun _=>hf⟩
theorem Ex.mark(l:List d7)(s:d9)(i:Nat)(m:l4)(lo hi:Nat)(h1:lo≤i)(h2:i<hi)(h5:kd l i≠5):Ex l s (x9 s i m) lo hi:=⟨L8 _,fun j hj=>by unfold x9;simp only;rw[Z1 (by omega)],fun j hj=>by unfold x9;simp only;rw[Z1 (fun e=>h5 (by rw[e];exact hj))],rfl,rfl,rfl,rfl,rfl,rfl,rfl,id⟩
theorem b31{α:Type}{l:List α}{b:Nat}{x:α}(h:l[b]? =some x):x8 l (b:Int) ((b+1:Nat):Int)=[x]:=by have hb:=(l9.1 h).1;have hx:=(l9.1 h).2;unfold x8;rw[B8,H5 hb,hx];have:(((b+1:Nat):Int)-(b:Int)).toNat=1:=(by omega);rw[this];rfl
theorem B7{l:List d7}{ks:List Nat}{a:List Int}(h:E9 l ks=a):ks.length=a.length∧∀(i:Nat) (h1:i<ks.length) (h2:i<a.length),F4 (kd l ks[i])=a[i]:=by subst h;exact⟨by unfold E9;rw[H2],fun i h1 h2=>by simp[E9]⟩
theorem X2{k:Int}(h:F4 k=116):15≤k∧k≤20:=by
 unfold F4 sk2 sk1 sk0 at h
 repeat' split at h
 all_goals omega
theorem Kc.first{l:List d7}{i j:Nat}{k:Nat}{ks:List Nat}(h:Kc l i j (k::ks)):k=i∧∃(x:d7) (q:Nat),l[i]? =some x∧x.Cs=(q:Int)-(i+1)∧i+1≤q∧q≤j∧Kc l q j ks:=by
 cases h with
 |cons _ q _ x _ hx hs hk kids rest=>exact⟨rfl,x,q,hx,hs,hk,by have:=rest.le;omega,rest⟩
section
variable{l:List d7}(hM:J6 l)(hl:l.length≤30000)(htx:∀n∈l,n.Gs.length≤65536)
include hM hl htx
theorem AW(K:d9→Int→Option N5)(hK:∀a b,K a b=((i6 a.P.No b).bind fun c=>(cond (decide (c.Ks=14)) (some ((0,a,()),())) ((i6 a.P.No b).bind fun d=>(cond (decide (d.Ks=20)) (((K a (w64 (b+1)))).bind fun(e:N5)=>(((N2 d5 e.1.2.1)).bind fun(f:RT0)=>(cond f.1.1 (some ((0,e.1.2.1,()),())) (((Kv d5 e.1.2.1.P.To e.1.1)).bind fun(h:W9)=>(((Fy d5 (d9.mk (s9.mk e.1.2.1.P.No e.1.2.1.P.Ms h.1.1 e.1.2.1.P.Rs e.1.2.1.P.Id e.1.2.1.P.As e.1.2.1.P.Ss e.1.2.1.P.Vars e.1.2.1.P.Es) e.1.2.1.Rs e.1.2.1.F) b (l4.mk h.1.2.1 0 0))).bind fun(j:p9)=>(some ((h.1.2.1,j.1.1,()),()))))))) ((okP (B9 b (w64 (b+1)) (a.P.No.length:Int))).bind fun _=>(((Pk d5 a.P.To a.Rs (x8 a.P.No b (w64 (b+1))))).bind fun(k:W9)=>(cond (decide (k.1.2.1=0)) (((Bm d5 a 8 b)).bind fun(l:p9)=>(some ((0,l.1.1,()),()))) (((Fy d5 a b (l4.mk k.1.2.1 0 0))).bind fun(m:p9)=>(some ((k.1.2.1,m.1.1,()),()))))))))))):∀(n b:Nat) (x:d7) (st:Nat),l[b]? =some x→x.Cs=(st:Int)-(b+1)→st-b=n→(14≤x.Ks∧x.Ks≤20)→∀(s:d9) (nr B:Nat),RI l nr B s→B+(st-b)≤80000000000→∃t s',K s (b:Int)=some ((t,s',()),())∧RI l nr (B+(st-b)) s'∧Ex l s s' b st∧(t=0∨C7 s'.P.To t)∧(s'.F.Code=0→x.Ks=14∧t=0∨(x.Ks≠14∧TKd s'.P.To t x.Ks)∧C7 s'.P.To t):=by
 intro n
 induction n using Nat.strongRecOn with
 |_ n ih=>
 intro b x st hx hs hn hk s nr B hR hB;have hbl:=(l9.1 hx).1;have hxe:=(l9.1 hx).2;have hnd:=hR.nodes;have hmk:=hR.marks;have hbig:=hR.big;unfold tot at hbig;have h5:kd l b≠5:=(by rw[u0 hx];omega);have gx:i6 s.P.No (b:Int)=some x:=(by rw[hnd,l7 hbl,hxe]);obtain⟨st',ks,t1,t2,t3,t4,t5,t6,t7⟩:=hM.nd b x hx;have est:st'=st:=(by omega);subst est;rw[hK,gx,d6,d6];by_cases c14:x.Ks=14
 ·rw[f9 c14];exact⟨0,s,rfl,hR.more (by omega),Ex.refl _ _ _ _,.inl rfl,fun _=>.inl ⟨c14,rfl⟩⟩
 rw[d8 c14,i5];by_cases c20:x.Ks=20
 ·rw[f9 c20,i7,z8 (by omega)];obtain⟨e1,e2⟩:=B7 (t6.k3 (.inr (.inr c20)));obtain⟨k,ks,rfl⟩:∃k ks',ks=k::ks':=by
   cases ks with
   |nil=>simp at e1
   |cons k ks=>exact⟨k,ks,rfl⟩
  have hk1:=X2 (e2 0 (by simp) (by simp));obtain⟨rfl,y,q,hy,hys,hq1,hq2,_⟩:=t5.first
  rw[H1,u0 hy]at hk1;obtain⟨t,s1,g1,g2,g3,g4,g5⟩:=ih (q-(b+1)) (by omega) (b+1) y q hy hys rfl (by omega) s nr B hR (by omega);have hbig1:=g2.big;unfold tot at hbig1;rw[g1,d6,Q9,d6];by_cases cb:s1.F.Code=0
  ·rw[f9 cb,x4,i5];have hT:C7 s1.P.To t:=by
    rcases g5 cb with⟨h,_⟩|⟨_,h⟩
    ·omega
    ·exact h
   obtain⟨T',t',k1,k2,k3,k4,k5,k6⟩:=a3n s1.P.To (by omega) t nr g2.ty hT;have hR2:=g2.types k2 k4 k5;have hm2:b<(⟨⟨s1.P.No,s1.P.Ms,T',s1.P.Rs,s1.P.Id,s1.P.As,s1.P.Ss,s1.P.Vars,s1.P.Es⟩,s1.Rs,s1.F⟩:d9).P.Ms.length:=by show b<s1.P.Ms.length;rw[g2.marks];exact hbl
   have hml:s1.P.Ms.length=l.length:=g2.marks;rw[k1,d6];simp only;rw[Bv _ (by simp only;omega) b hm2];refine⟨t',_,rfl,(hR2.mark b _ (by have:=k3.1;simp only;omega) k3.2.1).more (by omega),?_,.inr k3,fun _=>.inr ⟨⟨c14,fun h=>absurd h (by rw[c20];decide),fun _=>k6⟩,k3⟩⟩;have a1:Ex l s1 (⟨⟨s1.P.No,s1.P.Ms,T',s1.P.Rs,s1.P.Id,s1.P.As,s1.P.Ss,s1.P.Vars,s1.P.Es⟩,s1.Rs,s1.F⟩:d9) (b+1) q:=⟨k4,fun _ _=>rfl,fun _ _=>rfl,rfl,rfl,rfl,rfl,rfl,rfl,rfl,id⟩;exact(g3.trans a1 (i8 _) (i8 _) (i8 _) (i8 _)).trans (Ex.mark l _ b _ b (b+1) (i8 _) (by omega) h5) (by omega) hq2 (by omega) (by omega)
  ·rw[d8 cb];exact⟨0,s1,rfl,g2.more (by omega),g3.trans (Ex.refl l s1 (b+1) q) (by omega) hq2 (by omega) hq2,.inl rfl,fun h=>absurd h cb⟩
 ·have hcut:B9 (b:Int) ((b+1:Nat):Int) (s.P.No.length:Int):=(by rw[hnd];exact⟨by omega,by omega,by omega⟩);obtain⟨T',t,k1,k2⟩:=a6j s.P.To (by omega) s.Rs (by omega) x (by omega) (htx x (K8 hx)) nr hR.ty;rw[d8 c20,i5,z8 (by omega),W5 hcut,d6,hnd,b31 hx,k1,d6];by_cases c0:t=0
  ·obtain⟨f,f1,f2⟩:=Z0 s 8 (by decide) b (by rw[hnd];exact hbl);rw[f9 c0,i7,f1];exact⟨0,_,rfl,(hR.fault f (fun h=>absurd h f2)).more (by omega),Ex.fault l s f f2 _ _,.inl rfl,fun h=>absurd h f2⟩
  ·have hT:C7 s.P.To t∧(x.Ks=19→TKn s.P.To t 6):=by
    rcases k2 with h|h
    ·exact absurd h c0
    ·exact h
   rw[d8 c0,i5];simp only;rw[Bv s (by omega) b (by omega)];exact⟨t,_,rfl,(hR.mark b _ (by have:=hT.1.1;simp only;omega) hT.1.2.1).more (by omega),Ex.mark l s b _ b st' (i8 _) (by omega) h5,.inr hT.1,fun _=>.inr ⟨⟨c14,hT.2,fun h=>absurd h c20⟩,hT.1⟩⟩
end
end
end
end Go.Proofs.YtabmahknlebhpaaGreat
